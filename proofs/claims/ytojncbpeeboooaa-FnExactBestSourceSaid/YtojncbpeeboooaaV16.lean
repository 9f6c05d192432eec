-- squeezed
-- made by pp.py (wip/tools) out of the translation; Lean checks it
import Derived.Test.YtojncbpeeboooaaV0
import Derived.Test.YtojncbpeeboooaaV6
import Derived.Test.YtojncbpeeboooaaV12
import Derived.Test.YtojncbpeeboooaaV13
import Derived.Test.YtojncbpeeboooaaV14
import Derived.Test.YtojncbpeeboooaaV15
namespace Go.Proofs.Ytojncbpeeboooaa.V
open Go.RowKit Go.Proofs.YtojncbpeeboooaaW.PrintWords Go.Proofs.YtojncbpeeboooaaW.PrintLast Go.Proofs.YtojncbpeeboooaaW.PrintMore
attribute [local go_sem] max2_int min2_int max_two min_two max_three min_three max_four min_four   -- for this text's walks alone
set_option linter.unusedVariables false
set_option linter.unusedSimpArgs false


/-! ### laws_FnExactBestSource: function 7 -/
mutual
def laws_FnExactBestSource.j0 : Nat → List (S151) → List (S153) → Int → List (S58) → List (S124) → Int → Bool → List Int → Int → Int → List Int → Int → Int → Option (Bool)
 | 0, _, _, _, _, _, _, _, _, _, _, _, _, _ => none
 | k + 1, x0, x1, x7, x8, x9, x11, x53, x366000, x366001, x366002, x379000, x379001, x379002 => if x53 = true then (some false) else ((laws_toSourceS.f k x0).bind fun t380 => ((laws_eqSourceS.f k x8 t380).bind fun t383 => (if t383 = true then ((laws_toStockedS.f k x1).bind fun t384 => ((laws_eqStockedS.f k x9 t384).bind fun t387 => (if t387 = true then ((laws_markSourceS.f k x8 1).bind fun t388 => ((laws_markStockedS.f k x9 t388).bind fun bt389 => (if bt389.1 < 0 then (laws_FnExactBestSource.j1 k x0 x1 x7 true x366000 x366001 x366002 x379000 x379001 x379002) else ((laws_eqSourcing.f k x379000 x379001 x379002 x366000 x366001 x366002).bind fun t391 => (if t391 = true then (laws_FnExactBestSource.j1 k x0 x1 x7 (x11 != x7) x366000 x366001 x366002 x379000 x379001 x379002) else (laws_FnExactBestSource.j1 k x0 x1 x7 true x366000 x366001 x366002 x379000 x379001 x379002)))))) else (some false)))) else (some false))))
def laws_FnExactBestSource.j1 : Nat → List (S151) → List (S153) → Int → Bool → List Int → Int → Int → List Int → Int → Int → Option (Bool)
 | 0, _, _, _, _, _, _, _, _, _, _ => none
 | k + 1, x0, x1, x7, x82, x366000, x366001, x366002, x379000, x379001, x379002 => if x82 = true then (some false) else ((laws_markSourcing.f k x379000 x379001 x379002 1).bind fun bt392 => ((laws_heldSourcing.f k bt392.2 x379001 x379002 1).bind fun t394 => (if t394 < 0 then (some false) else (if t394 = bt392.1 then ((laws_toSourceS.f k x0).bind fun t395 => ((laws_toStockedS.f k x1).bind fun t398 => ((impl_BestSource.f k t395 t398).bind fun bt401 => ((laws_eqSourcing.f k bt401.1 bt401.2.1 bt401.2.2.1 x366000 x366001 x366002).bind fun t408 => (if t408 = true then (laws_FnExactBestSource.j2 k bt392.1 (bt401.2.2.2 != x7) bt392.2 x379001 x379002) else (laws_FnExactBestSource.j2 k bt392.1 true bt392.2 x379001 x379002)))))) else (some false)))))
def laws_FnExactBestSource.j2 : Nat → Int → Bool → List Int → Int → Int → Option (Bool)
 | 0, _, _, _, _, _ => none
 | k + 1, x13, x110, x379000, x379001, x379002 => if x110 = true then (some false) else ((laws_heldSourcing.f k x379000 x379001 x379002 1).bind fun t409 => (if t409 < 0 then (some false) else (if t409 = x13 then (some true) else (some false))))
end
def laws_FnExactBestSource.f (k : Nat) (l0 : List (S151)) (l1 : List (S153)) : Option (Bool) := (laws_szSourceS.f k l0 1048576).bind fun t351 => (if t351 < 0 then (some true) else ((laws_szStockedS.f k l1 t351).bind fun t352 => (if t352 < 0 then (some true) else ((laws_toSourceS.f k l0).bind fun t353 => ((laws_toStockedS.f k l1).bind fun t356 => ((spec_BestSource.f k t353 t356).bind fun bt359 => ((laws_toSourceS.f k l0).bind fun t366 => ((laws_toStockedS.f k l1).bind fun t369 => ((impl_BestSource.f k t366 t369).bind fun bt372 => ((laws_eqSourcing.f k bt372.1 bt372.2.1 bt372.2.2.1 bt359.1 bt359.2.1 bt359.2.2.1).bind fun t379 => (if t379 = true then (laws_FnExactBestSource.j0 k l0 l1 bt359.2.2.2 t366 t369 bt372.2.2.2 (bt372.2.2.2 != bt359.2.2.2) bt359.1 bt359.2.1 bt359.2.2.1 bt372.1 bt372.2.1 bt372.2.2.1) else (laws_FnExactBestSource.j0 k l0 l1 bt359.2.2.2 t366 t369 bt372.2.2.2 true bt359.1 bt359.2.1 bt359.2.2.1 bt372.1 bt372.2.1 bt372.2.2.1))))))))))))
theorem laws_FnExactBestSource.mono_l : ∀ k, (∀ y0 y1 y2 y3 y4 y5 y6 y7 y8 y9 y10 y11 y12, LeO (laws_FnExactBestSource.j0 k y0 y1 y2 y3 y4 y5 y6 y7 y8 y9 y10 y11 y12) (laws_FnExactBestSource.j0 (k + 1) y0 y1 y2 y3 y4 y5 y6 y7 y8 y9 y10 y11 y12)) ∧ (∀ y0 y1 y2 y3 y4 y5 y6 y7 y8 y9, LeO (laws_FnExactBestSource.j1 k y0 y1 y2 y3 y4 y5 y6 y7 y8 y9) (laws_FnExactBestSource.j1 (k + 1) y0 y1 y2 y3 y4 y5 y6 y7 y8 y9)) ∧ (∀ y0 y1 y2 y3 y4, LeO (laws_FnExactBestSource.j2 k y0 y1 y2 y3 y4) (laws_FnExactBestSource.j2 (k + 1) y0 y1 y2 y3 y4))
 | 0 => ⟨fun _ _ _ _ _ _ _ _ _ _ _ _ _ r h => by simp [laws_FnExactBestSource.j0] at h, fun _ _ _ _ _ _ _ _ _ _ r h => by simp [laws_FnExactBestSource.j1] at h, fun _ _ _ _ _ r h => by simp [laws_FnExactBestSource.j2] at h⟩
 | k + 1 => by
  obtain ⟨ih0, ih1, ih2⟩ := laws_FnExactBestSource.mono_l k
  refine ⟨?_, ?_, ?_⟩
  ·intro y0 y1 y2 y3 y4 y5 y6 y7 y8 y9 y10 y11 y12
   unfold laws_FnExactBestSource.j0
   repeat' first
   | (with_reducible exact ih0 _ _ _ _ _ _ _ _ _ _ _ _ _)
   | (with_reducible exact ih1 _ _ _ _ _ _ _ _ _ _)
   | (with_reducible exact ih2 _ _ _ _ _)
   | (with_reducible exact impl_BestSource.mono _ _ _)
   | (with_reducible exact laws_eqSourceS.mono _ _ _)
   | (with_reducible exact laws_eqSourcing.mono _ _ _ _ _ _ _)
   | (with_reducible exact laws_eqStockedS.mono _ _ _)
   | (with_reducible exact laws_heldSourcing.mono _ _ _ _ _)
   | (with_reducible exact laws_markSourceS.mono _ _ _)
   | (with_reducible exact laws_markSourcing.mono _ _ _ _ _)
   | (with_reducible exact laws_markStockedS.mono _ _ _)
   | (with_reducible exact laws_szSourceS.mono _ _ _)
   | (with_reducible exact laws_szStockedS.mono _ _ _)
   | (with_reducible exact laws_toSourceS.mono _ _)
   | (with_reducible exact laws_toStockedS.mono _ _)
   | (with_reducible exact spec_BestSource.mono _ _ _)
   | (with_reducible exact LeO.refl _)
   | (with_reducible exact LeO.none _)
   | (with_reducible refine LeO.ite ?_ ?_)
   | (with_reducible refine LeO.bind ?_ (fun _ => ?_))
   | exact ih0 _ _ _ _ _ _ _ _ _ _ _ _ _
   | exact ih1 _ _ _ _ _ _ _ _ _ _
   | exact ih2 _ _ _ _ _
   | exact impl_BestSource.mono _ _ _
   | exact laws_eqSourceS.mono _ _ _
   | exact laws_eqSourcing.mono _ _ _ _ _ _ _
   | exact laws_eqStockedS.mono _ _ _
   | exact laws_heldSourcing.mono _ _ _ _ _
   | exact laws_markSourceS.mono _ _ _
   | exact laws_markSourcing.mono _ _ _ _ _
   | exact laws_markStockedS.mono _ _ _
   | exact laws_szSourceS.mono _ _ _
   | exact laws_szStockedS.mono _ _ _
   | exact laws_toSourceS.mono _ _
   | exact laws_toStockedS.mono _ _
   | exact spec_BestSource.mono _ _ _
   | exact LeO.none _
   | refine LeO.ite ?_ ?_
   | refine LeO.bind ?_ (fun _ => ?_)
  ·intro y0 y1 y2 y3 y4 y5 y6 y7 y8 y9
   unfold laws_FnExactBestSource.j1
   repeat' first
   | (with_reducible exact ih0 _ _ _ _ _ _ _ _ _ _ _ _ _)
   | (with_reducible exact ih1 _ _ _ _ _ _ _ _ _ _)
   | (with_reducible exact ih2 _ _ _ _ _)
   | (with_reducible exact impl_BestSource.mono _ _ _)
   | (with_reducible exact laws_eqSourceS.mono _ _ _)
   | (with_reducible exact laws_eqSourcing.mono _ _ _ _ _ _ _)
   | (with_reducible exact laws_eqStockedS.mono _ _ _)
   | (with_reducible exact laws_heldSourcing.mono _ _ _ _ _)
   | (with_reducible exact laws_markSourceS.mono _ _ _)
   | (with_reducible exact laws_markSourcing.mono _ _ _ _ _)
   | (with_reducible exact laws_markStockedS.mono _ _ _)
   | (with_reducible exact laws_szSourceS.mono _ _ _)
   | (with_reducible exact laws_szStockedS.mono _ _ _)
   | (with_reducible exact laws_toSourceS.mono _ _)
   | (with_reducible exact laws_toStockedS.mono _ _)
   | (with_reducible exact spec_BestSource.mono _ _ _)
   | (with_reducible exact LeO.refl _)
   | (with_reducible exact LeO.none _)
   | (with_reducible refine LeO.ite ?_ ?_)
   | (with_reducible refine LeO.bind ?_ (fun _ => ?_))
   | exact ih0 _ _ _ _ _ _ _ _ _ _ _ _ _
   | exact ih1 _ _ _ _ _ _ _ _ _ _
   | exact ih2 _ _ _ _ _
   | exact impl_BestSource.mono _ _ _
   | exact laws_eqSourceS.mono _ _ _
   | exact laws_eqSourcing.mono _ _ _ _ _ _ _
   | exact laws_eqStockedS.mono _ _ _
   | exact laws_heldSourcing.mono _ _ _ _ _
   | exact laws_markSourceS.mono _ _ _
   | exact laws_markSourcing.mono _ _ _ _ _
   | exact laws_markStockedS.mono _ _ _
   | exact laws_szSourceS.mono _ _ _
   | exact laws_szStockedS.mono _ _ _
   | exact laws_toSourceS.mono _ _
   | exact laws_toStockedS.mono _ _
   | exact spec_BestSource.mono _ _ _
   | exact LeO.none _
   | refine LeO.ite ?_ ?_
   | refine LeO.bind ?_ (fun _ => ?_)
  ·intro y0 y1 y2 y3 y4
   unfold laws_FnExactBestSource.j2
   repeat' first
   | (with_reducible exact ih0 _ _ _ _ _ _ _ _ _ _ _ _ _)
   | (with_reducible exact ih1 _ _ _ _ _ _ _ _ _ _)
   | (with_reducible exact ih2 _ _ _ _ _)
   | (with_reducible exact impl_BestSource.mono _ _ _)
   | (with_reducible exact laws_eqSourceS.mono _ _ _)
   | (with_reducible exact laws_eqSourcing.mono _ _ _ _ _ _ _)
   | (with_reducible exact laws_eqStockedS.mono _ _ _)
   | (with_reducible exact laws_heldSourcing.mono _ _ _ _ _)
   | (with_reducible exact laws_markSourceS.mono _ _ _)
   | (with_reducible exact laws_markSourcing.mono _ _ _ _ _)
   | (with_reducible exact laws_markStockedS.mono _ _ _)
   | (with_reducible exact laws_szSourceS.mono _ _ _)
   | (with_reducible exact laws_szStockedS.mono _ _ _)
   | (with_reducible exact laws_toSourceS.mono _ _)
   | (with_reducible exact laws_toStockedS.mono _ _)
   | (with_reducible exact spec_BestSource.mono _ _ _)
   | (with_reducible exact LeO.refl _)
   | (with_reducible exact LeO.none _)
   | (with_reducible refine LeO.ite ?_ ?_)
   | (with_reducible refine LeO.bind ?_ (fun _ => ?_))
   | exact ih0 _ _ _ _ _ _ _ _ _ _ _ _ _
   | exact ih1 _ _ _ _ _ _ _ _ _ _
   | exact ih2 _ _ _ _ _
   | exact impl_BestSource.mono _ _ _
   | exact laws_eqSourceS.mono _ _ _
   | exact laws_eqSourcing.mono _ _ _ _ _ _ _
   | exact laws_eqStockedS.mono _ _ _
   | exact laws_heldSourcing.mono _ _ _ _ _
   | exact laws_markSourceS.mono _ _ _
   | exact laws_markSourcing.mono _ _ _ _ _
   | exact laws_markStockedS.mono _ _ _
   | exact laws_szSourceS.mono _ _ _
   | exact laws_szStockedS.mono _ _ _
   | exact laws_toSourceS.mono _ _
   | exact laws_toStockedS.mono _ _
   | exact spec_BestSource.mono _ _ _
   | exact LeO.none _
   | refine LeO.ite ?_ ?_
   | refine LeO.bind ?_ (fun _ => ?_)
theorem laws_FnExactBestSource.mono : ∀ a0 a1 k, LeO (laws_FnExactBestSource.f k a0 a1) (laws_FnExactBestSource.f (k + 1) a0 a1) := by
 intro a0 a1 k
 obtain ⟨ih0, ih1, ih2⟩ := laws_FnExactBestSource.mono_l k
 unfold laws_FnExactBestSource.f
 repeat' first
   | (with_reducible exact ih0 _ _ _ _ _ _ _ _ _ _ _ _ _)
   | (with_reducible exact ih1 _ _ _ _ _ _ _ _ _ _)
   | (with_reducible exact ih2 _ _ _ _ _)
   | (with_reducible exact impl_BestSource.mono _ _ _)
   | (with_reducible exact laws_eqSourceS.mono _ _ _)
   | (with_reducible exact laws_eqSourcing.mono _ _ _ _ _ _ _)
   | (with_reducible exact laws_eqStockedS.mono _ _ _)
   | (with_reducible exact laws_heldSourcing.mono _ _ _ _ _)
   | (with_reducible exact laws_markSourceS.mono _ _ _)
   | (with_reducible exact laws_markSourcing.mono _ _ _ _ _)
   | (with_reducible exact laws_markStockedS.mono _ _ _)
   | (with_reducible exact laws_szSourceS.mono _ _ _)
   | (with_reducible exact laws_szStockedS.mono _ _ _)
   | (with_reducible exact laws_toSourceS.mono _ _)
   | (with_reducible exact laws_toStockedS.mono _ _)
   | (with_reducible exact spec_BestSource.mono _ _ _)
   | (with_reducible exact LeO.refl _)
   | (with_reducible exact LeO.none _)
   | (with_reducible refine LeO.ite ?_ ?_)
   | (with_reducible refine LeO.bind ?_ (fun _ => ?_))
   | exact ih0 _ _ _ _ _ _ _ _ _ _ _ _ _
   | exact ih1 _ _ _ _ _ _ _ _ _ _
   | exact ih2 _ _ _ _ _
   | exact impl_BestSource.mono _ _ _
   | exact laws_eqSourceS.mono _ _ _
   | exact laws_eqSourcing.mono _ _ _ _ _ _ _
   | exact laws_eqStockedS.mono _ _ _
   | exact laws_heldSourcing.mono _ _ _ _ _
   | exact laws_markSourceS.mono _ _ _
   | exact laws_markSourcing.mono _ _ _ _ _
   | exact laws_markStockedS.mono _ _ _
   | exact laws_szSourceS.mono _ _ _
   | exact laws_szStockedS.mono _ _ _
   | exact laws_toSourceS.mono _ _
   | exact laws_toStockedS.mono _ _
   | exact spec_BestSource.mono _ _ _
   | exact LeO.none _
   | refine LeO.ite ?_ ?_
   | refine LeO.bind ?_ (fun _ => ?_)
set_option maxHeartbeats 64000000 in
set_option maxRecDepth 100000 in
theorem laws_FnExactBestSource.calls (k : Nat) (A0 : Option Addr) (c0 : Nat) (l0 : List (S151)) (A1 : Option Addr) (c1 : Nat) (l1 : List (S153)) (r : Bool) (w : World) (hr0 : Kd.C k151 w A0 l0.length l0) (hc0 : l0.length ≤ c0) (hr1 : Kd.C k153 w A1 l1.length l1) (hc1 : l1.length ≤ c1) (h : laws_FnExactBestSource.f k l0 l1 = some r) :
  Calls Try.prog 7 #[.slice A0 l0.length c0, .slice A1 l1.length c1] w fun e w' => e = .returned (.bool r) ∧ Below w.heap.size w w' := by
 have hu52 := Try.underlying52
 obtain ⟨HR0, HC0, HR1, HC1, HB⟩ := zD5 hr0 hc0 hr1 hc1 (Below.refl w.heap.size w)
 clear hr0 hc0 hr1 hc1
 have H : ((laws_szSourceS.f k l0 1048576).bind fun t351 => (if t351 < 0 then (some true) else ((laws_szStockedS.f k l1 t351).bind fun t352 => (if t352 < 0 then (some true) else ((laws_toSourceS.f k l0).bind fun t353 => ((laws_toStockedS.f k l1).bind fun t356 => ((spec_BestSource.f k t353 t356).bind fun bt359 => ((laws_toSourceS.f k l0).bind fun t366 => ((laws_toStockedS.f k l1).bind fun t369 => ((impl_BestSource.f k t366 t369).bind fun bt372 => ((laws_eqSourcing.f k bt372.1 bt372.2.1 bt372.2.2.1 bt359.1 bt359.2.1 bt359.2.2.1).bind fun t379 => (if t379 = true then (laws_FnExactBestSource.j0 k l0 l1 bt359.2.2.2 t366 t369 bt372.2.2.2 (bt372.2.2.2 != bt359.2.2.2) bt359.1 bt359.2.1 bt359.2.2.1 bt372.1 bt372.2.1 bt372.2.2.1) else (laws_FnExactBestSource.j0 k l0 l1 bt359.2.2.2 t366 t369 bt372.2.2.2 true bt359.1 bt359.2.1 bt359.2.2.1 bt372.1 bt372.2.1 bt372.2.2.1))))))))))))) = some r := h
 clear h
 replace H := Option.bind_eq_some_iff.mp H
 obtain ⟨t351, A30, H⟩ := H
 replace H : (if t351 < 0 then (some true) else ((laws_szStockedS.f k l1 t351).bind fun t352 => (if t352 < 0 then (some true) else ((laws_toSourceS.f k l0).bind fun t353 => ((laws_toStockedS.f k l1).bind fun t356 => ((spec_BestSource.f k t353 t356).bind fun bt359 => ((laws_toSourceS.f k l0).bind fun t366 => ((laws_toStockedS.f k l1).bind fun t369 => ((impl_BestSource.f k t366 t369).bind fun bt372 => ((laws_eqSourcing.f k bt372.1 bt372.2.1 bt372.2.2.1 bt359.1 bt359.2.1 bt359.2.2.1).bind fun t379 => (if t379 = true then (laws_FnExactBestSource.j0 k l0 l1 bt359.2.2.2 t366 t369 bt372.2.2.2 (bt372.2.2.2 != bt359.2.2.2) bt359.1 bt359.2.1 bt359.2.2.1 bt372.1 bt372.2.1 bt372.2.2.1) else (laws_FnExactBestSource.j0 k l0 l1 bt359.2.2.2 t366 t369 bt372.2.2.2 true bt359.1 bt359.2.1 bt359.2.2.1 bt372.1 bt372.2.1 bt372.2.2.1)))))))))))) = some r := H
 have A3 := za A30
 clear A30
 by_cases c4 : t351 < 0
 ·rw [if_pos c4] at H
  have c4b0 := decide_eq_true c4
  clear c4
  obtain rfl := Option.some.inj H
  go_enter Try.func7, Try.ntmps7
  go_wp2_with (first | ((with_reducible refine gate_callee (f := 33) rfl ?_); refine goesL_ (some 19) rfl rfl Try.func33 zG106 rfl #[.slice A0 l0.length c0, .int .i64 1048576] rfl zG80 ?_; (with_reducible refine (laws_szSourceS.calls k _ _ l0 1048576 t351 _ ?side1 ?side2 A3.out).mono ?_); (case side1 => exact zH84); (case side2 => exact zH128); rintro e w5 ⟨rfl, hb⟩; refine ⟨_, rfl, ?_⟩; replace HB := za (zq zG85 hb); (try clear hb)))
  go_ret
  exact zH43
 rw [if_neg c4] at H
 have c4b0 := decide_eq_false c4
 clear c4
 replace H := Option.bind_eq_some_iff.mp H
 obtain ⟨t352, A60, H⟩ := H
 replace H : (if t352 < 0 then (some true) else ((laws_toSourceS.f k l0).bind fun t353 => ((laws_toStockedS.f k l1).bind fun t356 => ((spec_BestSource.f k t353 t356).bind fun bt359 => ((laws_toSourceS.f k l0).bind fun t366 => ((laws_toStockedS.f k l1).bind fun t369 => ((impl_BestSource.f k t366 t369).bind fun bt372 => ((laws_eqSourcing.f k bt372.1 bt372.2.1 bt372.2.2.1 bt359.1 bt359.2.1 bt359.2.2.1).bind fun t379 => (if t379 = true then (laws_FnExactBestSource.j0 k l0 l1 bt359.2.2.2 t366 t369 bt372.2.2.2 (bt372.2.2.2 != bt359.2.2.2) bt359.1 bt359.2.1 bt359.2.2.1 bt372.1 bt372.2.1 bt372.2.2.1) else (laws_FnExactBestSource.j0 k l0 l1 bt359.2.2.2 t366 t369 bt372.2.2.2 true bt359.1 bt359.2.1 bt359.2.2.1 bt372.1 bt372.2.1 bt372.2.2.1)))))))))) = some r := H
 have A6 := za A60
 clear A60
 by_cases c7 : t352 < 0
 ·rw [if_pos c7] at H
  have c7b0 := decide_eq_true c7
  clear c7
  obtain rfl := Option.some.inj H
  go_enter Try.func7, Try.ntmps7
  go_wp2_with (first | ((with_reducible refine gate_callee (f := 33) rfl ?_); refine goesL_ (some 19) rfl rfl Try.func33 zG106 rfl #[.slice A0 l0.length c0, .int .i64 1048576] rfl zG80 ?_; (with_reducible refine (laws_szSourceS.calls k _ _ l0 1048576 t351 _ ?side1 ?side2 A3.out).mono ?_); (case side1 => exact zH84); (case side2 => exact zH128); rintro e w8 ⟨rfl, hb⟩; refine ⟨_, rfl, ?_⟩; replace HB := za (zq zG85 hb); (try clear hb)) | ((with_reducible refine gate_callee (f := 34) rfl ?_); refine goesL_ (some 24) rfl rfl Try.func34 zG106 rfl #[.slice A1 l1.length c1, .int .i64 t351] rfl zG80 ?_; (with_reducible refine (laws_szStockedS.calls k _ _ l1 t351 t352 _ ?side1 ?side2 A6.out).mono ?_); (case side1 => exact zH76); (case side2 => exact zH129); rintro e w9 ⟨rfl, hb⟩; refine ⟨_, rfl, ?_⟩; replace HB := za (zq zG85 hb); (try clear hb)))
  go_ret
  exact zH43
 rw [if_neg c7] at H
 have c7b0 := decide_eq_false c7
 clear c7
 replace H := Option.bind_eq_some_iff.mp H
 obtain ⟨t353, A100, H⟩ := H
 replace H : ((laws_toStockedS.f k l1).bind fun t356 => ((spec_BestSource.f k t353 t356).bind fun bt359 => ((laws_toSourceS.f k l0).bind fun t366 => ((laws_toStockedS.f k l1).bind fun t369 => ((impl_BestSource.f k t366 t369).bind fun bt372 => ((laws_eqSourcing.f k bt372.1 bt372.2.1 bt372.2.2.1 bt359.1 bt359.2.1 bt359.2.2.1).bind fun t379 => (if t379 = true then (laws_FnExactBestSource.j0 k l0 l1 bt359.2.2.2 t366 t369 bt372.2.2.2 (bt372.2.2.2 != bt359.2.2.2) bt359.1 bt359.2.1 bt359.2.2.1 bt372.1 bt372.2.1 bt372.2.2.1) else (laws_FnExactBestSource.j0 k l0 l1 bt359.2.2.2 t366 t369 bt372.2.2.2 true bt359.1 bt359.2.1 bt359.2.2.1 bt372.1 bt372.2.1 bt372.2.2.1)))))))) = some r := H
 have A10 := za A100
 clear A100
 replace H := Option.bind_eq_some_iff.mp H
 obtain ⟨t356, A110, H⟩ := H
 replace H : ((spec_BestSource.f k t353 t356).bind fun bt359 => ((laws_toSourceS.f k l0).bind fun t366 => ((laws_toStockedS.f k l1).bind fun t369 => ((impl_BestSource.f k t366 t369).bind fun bt372 => ((laws_eqSourcing.f k bt372.1 bt372.2.1 bt372.2.2.1 bt359.1 bt359.2.1 bt359.2.2.1).bind fun t379 => (if t379 = true then (laws_FnExactBestSource.j0 k l0 l1 bt359.2.2.2 t366 t369 bt372.2.2.2 (bt372.2.2.2 != bt359.2.2.2) bt359.1 bt359.2.1 bt359.2.2.1 bt372.1 bt372.2.1 bt372.2.2.1) else (laws_FnExactBestSource.j0 k l0 l1 bt359.2.2.2 t366 t369 bt372.2.2.2 true bt359.1 bt359.2.1 bt359.2.2.1 bt372.1 bt372.2.1 bt372.2.2.1))))))) = some r := H
 have A11 := za A110
 clear A110
 replace H := Option.bind_eq_some_iff.mp H
 obtain ⟨⟨t359, t362, t363, t364⟩, A120, H⟩ := H
 replace H : ((laws_toSourceS.f k l0).bind fun t366 => ((laws_toStockedS.f k l1).bind fun t369 => ((impl_BestSource.f k t366 t369).bind fun bt372 => ((laws_eqSourcing.f k bt372.1 bt372.2.1 bt372.2.2.1 t359 t362 t363).bind fun t379 => (if t379 = true then (laws_FnExactBestSource.j0 k l0 l1 t364 t366 t369 bt372.2.2.2 (bt372.2.2.2 != t364) t359 t362 t363 bt372.1 bt372.2.1 bt372.2.2.1) else (laws_FnExactBestSource.j0 k l0 l1 t364 t366 t369 bt372.2.2.2 true t359 t362 t363 bt372.1 bt372.2.1 bt372.2.2.1)))))) = some r := H
 have A12 := za A120
 clear A120
 replace H := Option.bind_eq_some_iff.mp H
 obtain ⟨t366, A130, H⟩ := H
 replace H : ((laws_toStockedS.f k l1).bind fun t369 => ((impl_BestSource.f k t366 t369).bind fun bt372 => ((laws_eqSourcing.f k bt372.1 bt372.2.1 bt372.2.2.1 t359 t362 t363).bind fun t379 => (if t379 = true then (laws_FnExactBestSource.j0 k l0 l1 t364 t366 t369 bt372.2.2.2 (bt372.2.2.2 != t364) t359 t362 t363 bt372.1 bt372.2.1 bt372.2.2.1) else (laws_FnExactBestSource.j0 k l0 l1 t364 t366 t369 bt372.2.2.2 true t359 t362 t363 bt372.1 bt372.2.1 bt372.2.2.1))))) = some r := H
 have A13 := za A130
 clear A130
 replace H := Option.bind_eq_some_iff.mp H
 obtain ⟨t369, A140, H⟩ := H
 replace H : ((impl_BestSource.f k t366 t369).bind fun bt372 => ((laws_eqSourcing.f k bt372.1 bt372.2.1 bt372.2.2.1 t359 t362 t363).bind fun t379 => (if t379 = true then (laws_FnExactBestSource.j0 k l0 l1 t364 t366 t369 bt372.2.2.2 (bt372.2.2.2 != t364) t359 t362 t363 bt372.1 bt372.2.1 bt372.2.2.1) else (laws_FnExactBestSource.j0 k l0 l1 t364 t366 t369 bt372.2.2.2 true t359 t362 t363 bt372.1 bt372.2.1 bt372.2.2.1)))) = some r := H
 have A14 := za A140
 clear A140
 replace H := Option.bind_eq_some_iff.mp H
 obtain ⟨⟨t372, t375, t376, t377⟩, A150, H⟩ := H
 replace H : ((laws_eqSourcing.f k t372 t375 t376 t359 t362 t363).bind fun t379 => (if t379 = true then (laws_FnExactBestSource.j0 k l0 l1 t364 t366 t369 t377 (t377 != t364) t359 t362 t363 t372 t375 t376) else (laws_FnExactBestSource.j0 k l0 l1 t364 t366 t369 t377 true t359 t362 t363 t372 t375 t376))) = some r := H
 obtain ⟨A15, HC16⟩ := zD2 A150 H
 clear A150 H
 go_enter Try.func7, Try.ntmps7
 go_upto_region 12 with (first | ((with_reducible refine gate_callee (f := 33) rfl ?_); refine goesL_ (some 19) rfl rfl Try.func33 zG106 rfl #[.slice A0 l0.length c0, .int .i64 1048576] rfl zG80 ?_; (with_reducible refine (laws_szSourceS.calls k _ _ l0 1048576 t351 _ ?side1 ?side2 A3.out).mono ?_); (case side1 => exact zH84); (case side2 => exact zH128); rintro e w17 ⟨rfl, hb⟩; refine ⟨_, rfl, ?_⟩; replace HB := za (zq zG85 hb); (try clear hb); (try clear hk)) | ((with_reducible refine gate_callee (f := 34) rfl ?_); refine goesL_ (some 24) rfl rfl Try.func34 zG106 rfl #[.slice A1 l1.length c1, .int .i64 t351] rfl zG80 ?_; (with_reducible refine (laws_szStockedS.calls k _ _ l1 t351 t352 _ ?side1 ?side2 A6.out).mono ?_); (case side1 => exact zH76); (case side2 => exact zH129); rintro e w18 ⟨rfl, hb⟩; refine ⟨_, rfl, ?_⟩; replace HB := za (zq zG85 hb); (try clear hb); (try clear hk)) | ((with_reducible refine gate_callee (f := 35) rfl ?_); refine goesL_ (some 29) rfl rfl Try.func35 zG106 rfl #[.slice A0 l0.length c0] rfl zG80 ?_; (with_reducible refine (laws_toSourceS.calls k _ _ l0 t353 _ ?side1 ?side2 A10.out).mono ?_); (case side1 => exact zH75); (case side2 => exact zH128); rintro e w19 ⟨v354, rfl, ho0, hb⟩; refine ⟨_, rfl, ?_⟩; have n_ := zA_ (za (zbj ho0 (zp zG85))) (za (zq zG85 hb)); clear HB; obtain ⟨HO355, HB⟩ := n_; (try clear hb); (try clear hk); (try clear ho0)) | ((with_reducible refine gate_callee (f := 36) rfl ?_); refine goesL_ (some 31) rfl rfl Try.func36 zG106 rfl #[.slice A1 l1.length c1] rfl zG80 ?_; (with_reducible refine (laws_toStockedS.calls k _ _ l1 t356 _ ?side1 ?side2 A11.out).mono ?_); (case side1 => exact zH76); (case side2 => exact zH129); rintro e w20 ⟨v357, rfl, ho0, hb⟩; refine ⟨_, rfl, ?_⟩; have n_ := zA_ (za (zav zK230 (zai ho0) hb)) (zA_ (za (zah ho0 (zp zG85))) (za (zq zG85 hb))); clear HO355 HB; obtain ⟨HO355, HO358, HB⟩ := n_; (try clear hb); (try clear hk); (try clear ho0); obtain ⟨Ao21, co21, eo21⟩ := zbl HO355.out; subst eo21; obtain ⟨Ao22, co22, eo22⟩ := zaf HO358.out; subst eo22) | ((with_reducible refine gate_callee (f := 27) rfl ?_); refine goesL_ (some 32) rfl rfl Try.func27 zG106 rfl #[.slice Ao21 t353.length co21, .slice Ao22 t356.length co22] rfl zG80 ?_; (with_reducible refine (spec_BestSource.calls k _ _ t353 _ _ t356 t359 t362 t363 t364 _ ?side1 ?side2 ?side3 ?side4 A12.out).mono ?_); (case side1 => repeat (first | exact (zan HO355.out).2.2 | (with_reducible refine zu ?_ _) | (with_reducible refine zv ?_ _) | (with_reducible refine zy ?_))); (case side2 => exact (zan HO355.out).2.1); (case side3 => repeat (first | exact (Kd.R_reads' HO358.out).2.2 | (with_reducible refine zu ?_ _) | (with_reducible refine zv ?_ _) | (with_reducible refine zy ?_))); (case side4 => exact (Kd.R_reads' HO358.out).2.1); rintro e w23 ⟨v360, rfl, ho0, hb⟩; refine ⟨_, rfl, ?_⟩; have n_ := zA_ (za (zam zK230 hb)) (zA_ (za (zt zK242 hb)) (zA_ (za (zah ho0 (zp zG85))) (za (zq zG85 hb)))); clear HO355 HO358 HB; obtain ⟨HO355, HO358, HO361, HB⟩ := n_; (try clear hb); (try clear hk); (try clear ho0)) | ((with_reducible refine gate_dst (N := 6) rfl ?_); refine box_event ?hg (N := 6) ?hd (cs := #[.slice none 0 0, .int .i64 0, .int .i64 0]) (t := 52) ?hr ?_; (case hd => rfl); (case hg => rfl); (case hr => exact zH124); intro gb365 hg w24 hbox hb; have n_ := zA_ (za (zam zK230 hb)) (zA_ (za (zt zK242 hb)) (zA_ (za (zt zK243 hb)) (zA_ (za (zq zG85 hb)) (zA_ (za (hbox)) (zA_ (zN1 w.heap.size hg (zp zG85)) (zN1 w.heap.size hg (zp zG85))))))); clear HO355 HO358 HO361 HB; obtain ⟨HO355, HO358, HO361, HB, BK365, GW365, GE365⟩ := n_; clear hb hbox hg; obtain ⟨Ao25, co25, eo25⟩ := zaf HO361.out; subst eo25; obtain ⟨hcz26_0, hcz26_1, hcz26_2, hfz26_0, hfz26_1, hfz26_2⟩ := zB3 BK365.out) | ((with_reducible refine gate_callee (f := 35) rfl ?_); refine goesL_ (some 36) rfl rfl Try.func35 zG106 rfl #[.slice A0 l0.length c0] rfl zG80 ?_; (with_reducible refine (laws_toSourceS.calls k _ _ l0 t366 _ ?side1 ?side2 A13.out).mono ?_); (case side1 => exact zab HR0.out zG83); (case side2 => exact zH128); rintro e w27 ⟨v367, rfl, ho0, hb⟩; refine ⟨_, rfl, ?_⟩; have n_ := zA_ (za (zav zK151 (Kd.S_base ho0) hb)) (zA_ (za (zt zK162 hb)) (zA_ (za (zt (by (with_reducible repeat (first | apply zl | apply zm | apply zn)); exact (zx (zr (p := ⟨gb365, 2, none⟩) (zr (p := ⟨gb365, 1, none⟩) (zr (p := ⟨gb365, 0, none⟩) (zaa HO361.out BK365.out zG107) (fun _ hk => hk.2) (.slice Ao25 t359.length co25)) (fun _ hk => hk.2) (.int .i64 t362)) (fun _ hk => hk.2) (.int .i64 t363)) (fun _ h_ => h_.1))) hb)) (zA_ (za (zbj (zbi (zbi ho0 (Kd.S_lt zK151)) (zak zK162)) (zp zG83))) (zA_ (za (zo (g := gb365) (o := .cells #[.slice Ao25 t359.length co25, .int .i64 t362, .int .i64 t363] 52 (0, 0)) (by (with_reducible repeat (first | refine zc ?_ _ | refine ze ?_ | refine zb ?_ _)); refine zw (cs := #[.slice Ao25 t359.length co25, .int .i64 t362, .int .i64 0]) ?_ 2 _ rfl; (with_reducible repeat (first | refine zc ?_ _ | refine ze ?_ | refine zb ?_ _)); refine zw (cs := #[.slice Ao25 t359.length co25, .int .i64 0, .int .i64 0]) ?_ 1 _ rfl; (with_reducible repeat (first | refine zc ?_ _ | refine ze ?_ | refine zb ?_ _)); refine zw (cs := #[.slice none 0 0, .int .i64 0, .int .i64 0]) ?_ 0 _ rfl; (with_reducible repeat (first | refine zc ?_ _ | refine ze ?_ | refine zb ?_ _)); exact BK365.out) hb)) (za (zq zG83 hb)))))); clear HO355 HO358 HO361 BK365 HB; obtain ⟨HO355, HO358, HO361, HO368, BK365, HB⟩ := n_; (try clear hb); (try clear hk); (try clear ho0)) | ((with_reducible refine gate_callee (f := 36) rfl ?_); refine goesL_ (some 38) rfl rfl Try.func36 zG106 rfl #[.slice A1 l1.length c1] rfl zG80 ?_; (with_reducible refine (laws_toStockedS.calls k _ _ l1 t369 _ ?side1 ?side2 A14.out).mono ?_); (case side1 => exact zH76); (case side2 => exact zH129); rintro e w28 ⟨v370, rfl, ho0, hb⟩; refine ⟨_, rfl, ?_⟩; have n_ := zA_ (za (zav zK230 (zai ho0) hb)) (zA_ (za (zaj zK242 (zai ho0) hb)) (zA_ (za (zt zK243 hb)) (zA_ (za (zav zK231 (zai ho0) hb)) (zA_ (za (zah (zal ho0 (zak zK242)) (zp zG83))) (zA_ (za (zo (g := gb365) (o := .cells #[.slice Ao25 t359.length co25, .int .i64 t362, .int .i64 t363] 52 (0, 0)) zG91 hb)) (za (zq zG83 hb))))))); clear HO355 HO358 HO361 HO368 BK365 HB; obtain ⟨HO355, HO358, HO361, HO368, HO371, BK365, HB⟩ := n_; (try clear hb); (try clear hk); (try clear ho0); obtain ⟨Ao29, co29, eo29⟩ := zbl HO368.out; subst eo29; obtain ⟨Ao30, co30, eo30⟩ := zaf HO371.out; subst eo30) | ((with_reducible refine gate_callee (f := 24) rfl ?_); refine goesL_ (some 42) rfl rfl Try.func24 zG106 rfl #[.slice Ao29 t366.length co29, .slice Ao30 t369.length co30] rfl zG80 ?_; (with_reducible refine (impl_BestSource.calls k _ _ t366 _ _ t369 t372 t375 t376 t377 _ ?side1 ?side2 ?side3 ?side4 A15.out).mono ?_); (case side1 => repeat (first | exact (zan HO368.out).2.2 | (with_reducible refine zu ?_ _) | (with_reducible refine zv ?_ _) | (with_reducible refine zy ?_))); (case side2 => exact (zan HO368.out).2.1); (case side3 => repeat (first | exact (Kd.R_reads' HO371.out).2.2 | (with_reducible refine zu ?_ _) | (with_reducible refine zv ?_ _) | (with_reducible refine zy ?_))); (case side4 => exact (Kd.R_reads' HO371.out).2.1); rintro e w31 ⟨v373, rfl, ho0, hb⟩; refine ⟨_, rfl, ?_⟩; have n_ := zA_ (za (zam zK230 hb)) (zA_ (za (zt zK242 hb)) (zA_ (za (zaj zK243 (zai ho0) hb)) (zA_ (za (zam zK231 hb)) (zA_ (za (zt (by (with_reducible repeat (first | apply zl | apply zm | apply zn)); exact HO371.out) hb)) (zA_ (za (zah (zal ho0 (zak zK243)) (zp zG83))) (zA_ (za (zo (g := gb365) (o := .cells #[.slice Ao25 t359.length co25, .int .i64 t362, .int .i64 t363] 52 (0, 0)) zG91 hb)) (za (zq zG83 hb)))))))); clear HO355 HO358 HO361 HO368 HO371 BK365 HB; obtain ⟨HO355, HO358, HO361, HO368, HO371, HO374, BK365, HB⟩ := n_; (try clear hb); (try clear hk); (try clear ho0)) | ((with_reducible refine gate_dst (N := 10) rfl ?_); refine box_event ?hg (N := 10) ?hd (cs := #[.slice none 0 0, .int .i64 0, .int .i64 0]) (t := 52) ?hr ?_; (case hd => rfl); (case hg => rfl); (case hr => exact zH124); intro gb378 hg w32 hbox hb; have n_ := zA_ (za (zam zK230 hb)) (zA_ (za (zt zK242 hb)) (zA_ (za (zt zK243 hb)) (zA_ (za (zam zK231 hb)) (zA_ (za (zt (by (with_reducible repeat (first | apply zl | apply zm | apply zn)); exact HO371.out) hb)) (zA_ (za (zt (by (with_reducible repeat (first | apply zl | apply zm | apply zn)); exact HO374.out) hb)) (zA_ (za (zo (g := gb365) (o := .cells #[.slice Ao25 t359.length co25, .int .i64 t362, .int .i64 t363] 52 (0, 0)) zG91 hb)) (zA_ (za (zq zG83 hb)) (zA_ (za (hbox)) (zA_ (zN1 w.heap.size hg (zp zG83)) (zA_ (zN1 w.heap.size hg (zp zG83)) (zN2 hg (zz (g := gb365) (o := .cells #[.slice Ao25 t359.length co25, .int .i64 t362, .int .i64 t363] 52 (0, 0)) zG91)))))))))))); clear HO355 HO358 HO361 HO368 HO371 HO374 BK365 HB; obtain ⟨HO355, HO358, HO361, HO368, HO371, HO374, BK365, HB, BK378, GW378, GE378, NB365_378, NB378_365⟩ := n_; clear hb hbox hg; obtain ⟨Ao33, co33, eo33⟩ := zaf HO374.out; subst eo33; have hnb34 := NB378_365.out; have hnc34 := NB365_378.out; obtain ⟨hcz35_0, hcz35_1, hcz35_2, hfz35_0, hfz35_1, hfz35_2⟩ := zB3 BK378.out))
 (try simp only [Act.put, List.setIfInBounds_toArray, List.set_cons_zero, List.set_cons_succ])
 go_cut [53] (fun v53 wc => ∃ (kq : Nat) (x53_15 : Bool), v53 = .bool x53_15 ∧ Aside0 (laws_FnExactBestSource.j0 kq l0 l1 t364 t366 t369 t377 x53_15 t359 t362 t363 t372 t375 t376 = some r) ∧ Aside0 (kq ≤ k) ∧ Aside0 (Kd.S k58 58 wc w.heap.size (fun k_ => some k_ ≠ ((.slice Ao30 t369.length co30) : Value).ownBlock) (.slice Ao29 t366.length co29) t366) ∧ Aside0 (Kd.R k124 124 wc w.heap.size (fun _ => True) (.slice Ao30 t369.length co30) t369) ∧ Aside0 (Kd.R (Kd.int .i64) 3 wc w.heap.size (fun k_ => some k_ ≠ ((.slice Ao33 t372.length co33) : Value).ownBlock) (.slice Ao25 t359.length co25) t359) ∧ Aside0 (Kd.R (Kd.int .i64) 3 wc w.heap.size (fun k_ => some k_ ≠ ((.slice Ao25 t359.length co25) : Value).ownBlock) (.slice Ao33 t372.length co33) t372) ∧ Aside0 (wc.heap[gb365]? = some (.cells #[(.slice Ao25 t359.length co25), .int .i64 t362, .int .i64 t363] 52 (0, 0))) ∧ Aside0 (wc.heap[gb378]? = some (.cells #[(.slice Ao33 t372.length co33), .int .i64 t375, .int .i64 t376] 52 (0, 0))) ∧ Aside0 (Below w.heap.size w wc))
 case first =>
  have H := HC16.out
  clear HC16
  replace H := Option.bind_eq_some_iff.mp H
  obtain ⟨t379, A360, H⟩ := H
  replace H : (if t379 = true then (laws_FnExactBestSource.j0 k l0 l1 t364 t366 t369 t377 (t377 != t364) t359 t362 t363 t372 t375 t376) else (laws_FnExactBestSource.j0 k l0 l1 t364 t366 t369 t377 true t359 t362 t363 t372 t375 t376)) = some r := H
  have A36 := za A360
  clear A360
  by_cases c37 : t379 = true
  ·subst c37
   have H1 : (laws_FnExactBestSource.j0 k l0 l1 t364 t366 t369 t377 (t377 != t364) t359 t362 t363 t372 t375 t376) = some r := by rw [if_pos rfl] at H; exact H
   clear H
   have H := H1
   clear H1
   have H' := za H
   clear H
   have hnb38 := NB378_365.out
   have hnc38 := NB365_378.out
   obtain ⟨hcz39_0, hcz39_1, hcz39_2, hfz39_0, hfz39_1, hfz39_2⟩ := zB3 BK378.out
   obtain ⟨hcz40_0, hcz40_1, hcz40_2, hfz40_0, hfz40_1, hfz40_2⟩ := zB3 BK365.out
   go_wp2_with (first | ((with_reducible refine gate_callee (f := 37) rfl ?_); refine goesL_ (some 47) rfl rfl Try.func37 zG106 rfl #[.agg #[.slice Ao33 t372.length co33, .int .i64 t375, .int .i64 t376], .agg #[.slice Ao25 t359.length co25, .int .i64 t362, .int .i64 t363]] rfl zG80 ?_; (with_reducible refine (laws_eqSourcing.calls k _ _ t372 t375 t376 _ _ t359 t362 t363 true _ ?side1 ?side2 ?side3 ?side4 A36.out).mono ?_); (case side1 => exact zH4); (case side2 => exact (Kd.R_reads' HO374.out).2.1); (case side3 => exact zH5); (case side4 => exact (Kd.R_reads' HO361.out).2.1); rintro e w41 ⟨rfl, hb⟩; refine ⟨_, rfl, ?_⟩; have n_ := zA_ (za (zam zK152 hb)) (zA_ (za (zt zK163 hb)) (zA_ (za (zt zK164 hb)) (zA_ (za (zam zK153 hb)) (zA_ (za (zt zK165 hb)) (zA_ (za (zt zK166 hb)) (zA_ (za (zo (g := gb365) (o := .cells #[.slice Ao25 t359.length co25, .int .i64 t362, .int .i64 t363] 52 (0, 0)) zK141 hb)) (zA_ (za (zo (g := gb378) (o := .cells #[.slice Ao33 t372.length co33, .int .i64 t375, .int .i64 t376] 52 (0, 0)) zK133 hb)) (za (zq zG77 hb))))))))); clear HO355 HO358 HO361 HO368 HO371 HO374 BK365 BK378 HB; obtain ⟨HO355, HO358, HO361, HO368, HO371, HO374, BK365, BK378, HB⟩ := n_; (try clear hb); (try clear hk)))
   go_meet
   case rel => exact ⟨_, ((t377 != t364)), zG105, H', ⟨zH125⟩, ⟨zH94⟩, ⟨zH95⟩, ⟨zH102⟩, ⟨zH103⟩, ⟨zH107⟩, ⟨zH108⟩, ⟨zH55⟩⟩
  replace c37 := Bool.eq_false_iff.mpr c37
  subst c37
  have H1 : (laws_FnExactBestSource.j0 k l0 l1 t364 t366 t369 t377 true t359 t362 t363 t372 t375 t376) = some r := by rw [if_neg (show ¬ (false = true) by decide)] at H; exact H
  clear H
  have H := H1
  clear H1
  have H' := za H
  clear H
  have hnb42 := NB378_365.out
  have hnc42 := NB365_378.out
  obtain ⟨hcz43_0, hcz43_1, hcz43_2, hfz43_0, hfz43_1, hfz43_2⟩ := zB3 BK378.out
  obtain ⟨hcz44_0, hcz44_1, hcz44_2, hfz44_0, hfz44_1, hfz44_2⟩ := zB3 BK365.out
  go_wp2_with (first | ((with_reducible refine gate_callee (f := 37) rfl ?_); refine goesL_ (some 47) rfl rfl Try.func37 zG106 rfl #[.agg #[.slice Ao33 t372.length co33, .int .i64 t375, .int .i64 t376], .agg #[.slice Ao25 t359.length co25, .int .i64 t362, .int .i64 t363]] rfl zG80 ?_; (with_reducible refine (laws_eqSourcing.calls k _ _ t372 t375 t376 _ _ t359 t362 t363 false _ ?side1 ?side2 ?side3 ?side4 A36.out).mono ?_); (case side1 => exact zH4); (case side2 => exact (Kd.R_reads' HO374.out).2.1); (case side3 => exact zH5); (case side4 => exact (Kd.R_reads' HO361.out).2.1); rintro e w45 ⟨rfl, hb⟩; refine ⟨_, rfl, ?_⟩; have n_ := zA_ (za (zam zK152 hb)) (zA_ (za (zt zK163 hb)) (zA_ (za (zt zK164 hb)) (zA_ (za (zam zK153 hb)) (zA_ (za (zt zK165 hb)) (zA_ (za (zt zK166 hb)) (zA_ (za (zo (g := gb365) (o := .cells #[.slice Ao25 t359.length co25, .int .i64 t362, .int .i64 t363] 52 (0, 0)) zK141 hb)) (zA_ (za (zo (g := gb378) (o := .cells #[.slice Ao33 t372.length co33, .int .i64 t375, .int .i64 t376] 52 (0, 0)) zK133 hb)) (za (zq zG77 hb))))))))); clear HO355 HO358 HO361 HO368 HO371 HO374 BK365 BK378 HB; obtain ⟨HO355, HO358, HO361, HO368, HO371, HO374, BK365, BK378, HB⟩ := n_; (try clear hb); (try clear hk)))
  go_meet
  case rel => exact ⟨_, (true), zG105, H', ⟨zH125⟩, ⟨zH94⟩, ⟨zH95⟩, ⟨zH102⟩, ⟨zH103⟩, ⟨zH107⟩, ⟨zH108⟩, ⟨zH55⟩⟩
 case rest =>
  clear HC16
  try clear c1
  try clear c4
  try clear c4b0
  try clear c7
  try clear c7b0
  try clear c37
  try clear hcz26_0
  try clear hcz26_1
  try clear hcz26_2
  try clear hcz35_0
  try clear hcz35_1
  try clear hcz35_2
  try clear hcz39_0
  try clear hcz39_1
  try clear hcz39_2
  try clear hcz40_0
  try clear hcz40_1
  try clear hcz40_2
  try clear hcz43_0
  try clear hcz43_1
  try clear hcz43_2
  try clear hcz44_0
  try clear hcz44_1
  try clear hcz44_2
  try clear hfz26_0
  try clear hfz26_1
  try clear hfz26_2
  try clear hfz35_0
  try clear hfz35_1
  try clear hfz35_2
  try clear hfz39_0
  try clear hfz39_1
  try clear hfz39_2
  try clear hfz40_0
  try clear hfz40_1
  try clear hfz40_2
  try clear hfz43_0
  try clear hfz43_1
  try clear hfz43_2
  try clear hfz44_0
  try clear hfz44_1
  try clear hfz44_2
  obtain ⟨kq, x53_15, rfl, HA, HJ15, HO_8, HO_9, HO_366000, HO_379000, BK365, BK378, HB⟩ := hcut
  cases kq with
  | zero => exact absurd HA.out (by simp [laws_FnExactBestSource.j0])
  | succ kj15 =>
   have H := HA.out
   clear HA
   simp only [laws_FnExactBestSource.j0] at H
   by_cases c46 : x53_15 = true
   ·subst c46
    have H1 : (some false) = some r := by rw [if_pos rfl] at H; exact H
    clear H
    have H := H1
    clear H1
    obtain rfl := Option.some.inj H
    go_wp2
    go_ret
    exact zH26
   replace c46 := Bool.eq_false_iff.mpr c46
   subst c46
   have H1 : ((laws_toSourceS.f kj15 l0).bind fun t380 => ((laws_eqSourceS.f kj15 t366 t380).bind fun t383 => (if t383 = true then ((laws_toStockedS.f kj15 l1).bind fun t384 => ((laws_eqStockedS.f kj15 t369 t384).bind fun t387 => (if t387 = true then ((laws_markSourceS.f kj15 t366 1).bind fun t388 => ((laws_markStockedS.f kj15 t369 t388).bind fun bt389 => (if bt389.1 < 0 then (laws_FnExactBestSource.j1 kj15 l0 l1 t364 true t359 t362 t363 t372 t375 t376) else ((laws_eqSourcing.f kj15 t372 t375 t376 t359 t362 t363).bind fun t391 => (if t391 = true then (laws_FnExactBestSource.j1 kj15 l0 l1 t364 (t377 != t364) t359 t362 t363 t372 t375 t376) else (laws_FnExactBestSource.j1 kj15 l0 l1 t364 true t359 t362 t363 t372 t375 t376)))))) else (some false)))) else (some false)))) = some r := by rw [if_neg (show ¬ (false = true) by decide)] at H; exact H
   clear H
   have H := H1
   clear H1
   replace H := Option.bind_eq_some_iff.mp H
   obtain ⟨t380, A470, H⟩ := H
   replace H : ((laws_eqSourceS.f kj15 t366 t380).bind fun t383 => (if t383 = true then ((laws_toStockedS.f kj15 l1).bind fun t384 => ((laws_eqStockedS.f kj15 t369 t384).bind fun t387 => (if t387 = true then ((laws_markSourceS.f kj15 t366 1).bind fun t388 => ((laws_markStockedS.f kj15 t369 t388).bind fun bt389 => (if bt389.1 < 0 then (laws_FnExactBestSource.j1 kj15 l0 l1 t364 true t359 t362 t363 t372 t375 t376) else ((laws_eqSourcing.f kj15 t372 t375 t376 t359 t362 t363).bind fun t391 => (if t391 = true then (laws_FnExactBestSource.j1 kj15 l0 l1 t364 (t377 != t364) t359 t362 t363 t372 t375 t376) else (laws_FnExactBestSource.j1 kj15 l0 l1 t364 true t359 t362 t363 t372 t375 t376)))))) else (some false)))) else (some false))) = some r := H
   have A47 := za A470
   clear A470
   replace H := Option.bind_eq_some_iff.mp H
   obtain ⟨t383, A480, H⟩ := H
   replace H : (if t383 = true then ((laws_toStockedS.f kj15 l1).bind fun t384 => ((laws_eqStockedS.f kj15 t369 t384).bind fun t387 => (if t387 = true then ((laws_markSourceS.f kj15 t366 1).bind fun t388 => ((laws_markStockedS.f kj15 t369 t388).bind fun bt389 => (if bt389.1 < 0 then (laws_FnExactBestSource.j1 kj15 l0 l1 t364 true t359 t362 t363 t372 t375 t376) else ((laws_eqSourcing.f kj15 t372 t375 t376 t359 t362 t363).bind fun t391 => (if t391 = true then (laws_FnExactBestSource.j1 kj15 l0 l1 t364 (t377 != t364) t359 t362 t363 t372 t375 t376) else (laws_FnExactBestSource.j1 kj15 l0 l1 t364 true t359 t362 t363 t372 t375 t376)))))) else (some false)))) else (some false)) = some r := H
   have A48 := za A480
   clear A480
   by_cases c49 : t383 = true
   rotate_left
   ·replace c49 := Bool.eq_false_iff.mpr c49
    subst c49
    have H1 : (some false) = some r := by rw [if_neg (show ¬ (false = true) by decide)] at H; exact H
    clear H
    have H := H1
    clear H1
    obtain rfl := Option.some.inj H
    go_wp2_with (first | ((with_reducible refine gate_callee (f := 35) rfl ?_); refine goesL_ (some 56) rfl rfl Try.func35 zG106 rfl #[.slice A0 l0.length c0] rfl zG80 ?_; (with_reducible refine (laws_toSourceS.calls kj15 _ _ l0 t380 _ ?side1 ?side2 A47.out).mono ?_); (case side1 => exact zH75); (case side2 => exact zH128); rintro e w145 ⟨v381, rfl, ho0, hb⟩; refine ⟨_, rfl, ?_⟩; have n_ := zA_ (za (zav zK237 (Kd.S_base ho0) hb)) (zA_ (za (zt zG104 hb)) (zA_ (za (zt zG101 hb)) (zA_ (za (zt zG102 hb)) (zA_ (za (zbj (zbi (zbi ho0 (Kd.S_lt zK237)) (zak zG104)) (zp zG77))) (zA_ (za (zo (g := gb365) (o := .cells #[.slice Ao25 t359.length co25, .int .i64 t362, .int .i64 t363] 52 (0, 0)) zG91 hb)) (zA_ (za (zo (g := gb378) (o := .cells #[.slice Ao33 t372.length co33, .int .i64 t375, .int .i64 t376] 52 (0, 0)) zG92 hb)) (za (zq zG77 hb)))))))); clear HO_8 HO_9 HO_366000 HO_379000 BK365 BK378 HB; obtain ⟨HO_8, HO_9, HO_366000, HO_379000, HO382, BK365, BK378, HB⟩ := n_; (try clear hb); (try clear ho0); obtain ⟨Ao146, co146, eo146⟩ := zbl HO382.out; subst eo146) | ((with_reducible refine gate_callee (f := 38) rfl ?_); refine goesL_ (some 57) rfl rfl Try.func38 zG106 rfl #[.slice Ao29 t366.length co29, .slice Ao146 t380.length co146] rfl zG80 ?_; (with_reducible refine (laws_eqSourceS.calls kj15 _ _ t366 _ _ t380 false _ ?side1 ?side2 ?side3 ?side4 A48.out).mono ?_); (case side1 => exact zH78); (case side2 => exact (zan HO_8.out).2.1); (case side3 => exact zH77); (case side4 => exact (zan HO382.out).2.1); rintro e w147 ⟨rfl, hb⟩; refine ⟨_, rfl, ?_⟩; have n_ := zA_ (za (zam zK237 hb)) (zA_ (za (zt zG104 hb)) (zA_ (za (zt zG101 hb)) (zA_ (za (zt zG102 hb)) (zA_ (za (zam zK232 hb)) (zA_ (za (zo (g := gb365) (o := .cells #[.slice Ao25 t359.length co25, .int .i64 t362, .int .i64 t363] 52 (0, 0)) zG91 hb)) (zA_ (za (zo (g := gb378) (o := .cells #[.slice Ao33 t372.length co33, .int .i64 t375, .int .i64 t376] 52 (0, 0)) zG92 hb)) (za (zq zG77 hb)))))))); clear HO_8 HO_9 HO_366000 HO_379000 HO382 BK365 BK378 HB; obtain ⟨HO_8, HO_9, HO_366000, HO_379000, HO382, BK365, BK378, HB⟩ := n_; (try clear hb)))
    go_ret
    exact zH26

   subst c49
   have H1 : ((laws_toStockedS.f kj15 l1).bind fun t384 => ((laws_eqStockedS.f kj15 t369 t384).bind fun t387 => (if t387 = true then ((laws_markSourceS.f kj15 t366 1).bind fun t388 => ((laws_markStockedS.f kj15 t369 t388).bind fun bt389 => (if bt389.1 < 0 then (laws_FnExactBestSource.j1 kj15 l0 l1 t364 true t359 t362 t363 t372 t375 t376) else ((laws_eqSourcing.f kj15 t372 t375 t376 t359 t362 t363).bind fun t391 => (if t391 = true then (laws_FnExactBestSource.j1 kj15 l0 l1 t364 (t377 != t364) t359 t362 t363 t372 t375 t376) else (laws_FnExactBestSource.j1 kj15 l0 l1 t364 true t359 t362 t363 t372 t375 t376)))))) else (some false)))) = some r := by rw [if_pos rfl] at H; exact H
   clear H
   have H := H1
   clear H1
   replace H := Option.bind_eq_some_iff.mp H
   obtain ⟨t384, A500, H⟩ := H
   replace H : ((laws_eqStockedS.f kj15 t369 t384).bind fun t387 => (if t387 = true then ((laws_markSourceS.f kj15 t366 1).bind fun t388 => ((laws_markStockedS.f kj15 t369 t388).bind fun bt389 => (if bt389.1 < 0 then (laws_FnExactBestSource.j1 kj15 l0 l1 t364 true t359 t362 t363 t372 t375 t376) else ((laws_eqSourcing.f kj15 t372 t375 t376 t359 t362 t363).bind fun t391 => (if t391 = true then (laws_FnExactBestSource.j1 kj15 l0 l1 t364 (t377 != t364) t359 t362 t363 t372 t375 t376) else (laws_FnExactBestSource.j1 kj15 l0 l1 t364 true t359 t362 t363 t372 t375 t376)))))) else (some false))) = some r := H
   have A50 := za A500
   clear A500
   replace H := Option.bind_eq_some_iff.mp H
   obtain ⟨t387, A510, H⟩ := H
   replace H : (if t387 = true then ((laws_markSourceS.f kj15 t366 1).bind fun t388 => ((laws_markStockedS.f kj15 t369 t388).bind fun bt389 => (if bt389.1 < 0 then (laws_FnExactBestSource.j1 kj15 l0 l1 t364 true t359 t362 t363 t372 t375 t376) else ((laws_eqSourcing.f kj15 t372 t375 t376 t359 t362 t363).bind fun t391 => (if t391 = true then (laws_FnExactBestSource.j1 kj15 l0 l1 t364 (t377 != t364) t359 t362 t363 t372 t375 t376) else (laws_FnExactBestSource.j1 kj15 l0 l1 t364 true t359 t362 t363 t372 t375 t376)))))) else (some false)) = some r := H
   have A51 := za A510
   clear A510
   by_cases c52 : t387 = true
   rotate_left
   ·replace c52 := Bool.eq_false_iff.mpr c52
    subst c52
    have H1 : (some false) = some r := by rw [if_neg (show ¬ (false = true) by decide)] at H; exact H
    clear H
    have H := H1
    clear H1
    obtain rfl := Option.some.inj H
    go_wp2_with (first | ((with_reducible refine gate_callee (f := 35) rfl ?_); refine goesL_ (some 56) rfl rfl Try.func35 zG106 rfl #[.slice A0 l0.length c0] rfl zG80 ?_; (with_reducible refine (laws_toSourceS.calls kj15 _ _ l0 t380 _ ?side1 ?side2 A47.out).mono ?_); (case side1 => exact zH75); (case side2 => exact zH128); rintro e w139 ⟨v381, rfl, ho0, hb⟩; refine ⟨_, rfl, ?_⟩; have n_ := zA_ (za (zav zK237 (Kd.S_base ho0) hb)) (zA_ (za (zt zG104 hb)) (zA_ (za (zt zG101 hb)) (zA_ (za (zt zG102 hb)) (zA_ (za (zbj (zbi (zbi ho0 (Kd.S_lt zK237)) (zak zG104)) (zp zG77))) (zA_ (za (zo (g := gb365) (o := .cells #[.slice Ao25 t359.length co25, .int .i64 t362, .int .i64 t363] 52 (0, 0)) zG91 hb)) (zA_ (za (zo (g := gb378) (o := .cells #[.slice Ao33 t372.length co33, .int .i64 t375, .int .i64 t376] 52 (0, 0)) zG92 hb)) (za (zq zG77 hb)))))))); clear HO_8 HO_9 HO_366000 HO_379000 BK365 BK378 HB; obtain ⟨HO_8, HO_9, HO_366000, HO_379000, HO382, BK365, BK378, HB⟩ := n_; (try clear hb); (try clear ho0); obtain ⟨Ao140, co140, eo140⟩ := zbl HO382.out; subst eo140) | ((with_reducible refine gate_callee (f := 38) rfl ?_); refine goesL_ (some 57) rfl rfl Try.func38 zG106 rfl #[.slice Ao29 t366.length co29, .slice Ao140 t380.length co140] rfl zG80 ?_; (with_reducible refine (laws_eqSourceS.calls kj15 _ _ t366 _ _ t380 true _ ?side1 ?side2 ?side3 ?side4 A48.out).mono ?_); (case side1 => exact zH78); (case side2 => exact (zan HO_8.out).2.1); (case side3 => exact zH77); (case side4 => exact (zan HO382.out).2.1); rintro e w141 ⟨rfl, hb⟩; refine ⟨_, rfl, ?_⟩; have n_ := zA_ (za (zam zK237 hb)) (zA_ (za (zt zG104 hb)) (zA_ (za (zt zG101 hb)) (zA_ (za (zt zG102 hb)) (zA_ (za (zam zK232 hb)) (zA_ (za (zo (g := gb365) (o := .cells #[.slice Ao25 t359.length co25, .int .i64 t362, .int .i64 t363] 52 (0, 0)) zG91 hb)) (zA_ (za (zo (g := gb378) (o := .cells #[.slice Ao33 t372.length co33, .int .i64 t375, .int .i64 t376] 52 (0, 0)) zG92 hb)) (za (zq zG77 hb)))))))); clear HO_8 HO_9 HO_366000 HO_379000 HO382 BK365 BK378 HB; obtain ⟨HO_8, HO_9, HO_366000, HO_379000, HO382, BK365, BK378, HB⟩ := n_; (try clear hb)) | ((with_reducible refine gate_callee (f := 36) rfl ?_); refine goesL_ (some 61) rfl rfl Try.func36 zG106 rfl #[.slice A1 l1.length c1] rfl zG80 ?_; (with_reducible refine (laws_toStockedS.calls kj15 _ _ l1 t384 _ ?side1 ?side2 A50.out).mono ?_); (case side1 => exact zH76); (case side2 => exact zH129); rintro e w142 ⟨v385, rfl, ho0, hb⟩; refine ⟨_, rfl, ?_⟩; have n_ := zA_ (za (zav zK237 (zai ho0) hb)) (zA_ (za (zaj zG104 (zai ho0) hb)) (zA_ (za (zt zG101 hb)) (zA_ (za (zt zG102 hb)) (zA_ (za (zav zK232 (zai ho0) hb)) (zA_ (za (zah (zal ho0 (zak zG104)) (zp zG77))) (zA_ (za (zo (g := gb365) (o := .cells #[.slice Ao25 t359.length co25, .int .i64 t362, .int .i64 t363] 52 (0, 0)) zG91 hb)) (zA_ (za (zo (g := gb378) (o := .cells #[.slice Ao33 t372.length co33, .int .i64 t375, .int .i64 t376] 52 (0, 0)) zG92 hb)) (za (zq zG77 hb))))))))); clear HO_8 HO_9 HO_366000 HO_379000 HO382 BK365 BK378 HB; obtain ⟨HO_8, HO_9, HO_366000, HO_379000, HO382, HO386, BK365, BK378, HB⟩ := n_; (try clear hb); (try clear ho0); obtain ⟨Ao143, co143, eo143⟩ := zaf HO386.out; subst eo143) | ((with_reducible refine gate_callee (f := 39) rfl ?_); refine goesL_ (some 62) rfl rfl Try.func39 zG106 rfl #[.slice Ao30 t369.length co30, .slice Ao143 t384.length co143] rfl zG80 ?_; (with_reducible refine (laws_eqStockedS.calls kj15 _ _ t369 _ _ t384 false _ ?side1 ?side2 ?side3 ?side4 A51.out).mono ?_); (case side1 => exact zH64); (case side2 => exact (Kd.R_reads' HO_9.out).2.1); (case side3 => exact zH63); (case side4 => exact (Kd.R_reads' HO386.out).2.1); rintro e w144 ⟨rfl, hb⟩; refine ⟨_, rfl, ?_⟩; have n_ := zA_ (za (zam zK237 hb)) (zA_ (za (zt zG104 hb)) (zA_ (za (zt zG101 hb)) (zA_ (za (zt zG102 hb)) (zA_ (za (zam zK232 hb)) (zA_ (za (zt zK244 hb)) (zA_ (za (zo (g := gb365) (o := .cells #[.slice Ao25 t359.length co25, .int .i64 t362, .int .i64 t363] 52 (0, 0)) zG91 hb)) (zA_ (za (zo (g := gb378) (o := .cells #[.slice Ao33 t372.length co33, .int .i64 t375, .int .i64 t376] 52 (0, 0)) zG92 hb)) (za (zq zG77 hb))))))))); clear HO_8 HO_9 HO_366000 HO_379000 HO382 HO386 BK365 BK378 HB; obtain ⟨HO_8, HO_9, HO_366000, HO_379000, HO382, HO386, BK365, BK378, HB⟩ := n_; (try clear hb)))
    go_ret
    exact zH26
   subst c52
   have H1 : ((laws_markSourceS.f kj15 t366 1).bind fun t388 => ((laws_markStockedS.f kj15 t369 t388).bind fun bt389 => (if bt389.1 < 0 then (laws_FnExactBestSource.j1 kj15 l0 l1 t364 true t359 t362 t363 t372 t375 t376) else ((laws_eqSourcing.f kj15 t372 t375 t376 t359 t362 t363).bind fun t391 => (if t391 = true then (laws_FnExactBestSource.j1 kj15 l0 l1 t364 (t377 != t364) t359 t362 t363 t372 t375 t376) else (laws_FnExactBestSource.j1 kj15 l0 l1 t364 true t359 t362 t363 t372 t375 t376)))))) = some r := by rw [if_pos rfl] at H; exact H
   clear H
   have H := H1
   clear H1
   replace H := Option.bind_eq_some_iff.mp H
   obtain ⟨t388, A530, H⟩ := H
   replace H : ((laws_markStockedS.f kj15 t369 t388).bind fun bt389 => (if bt389.1 < 0 then (laws_FnExactBestSource.j1 kj15 l0 l1 t364 true t359 t362 t363 t372 t375 t376) else ((laws_eqSourcing.f kj15 t372 t375 t376 t359 t362 t363).bind fun t391 => (if t391 = true then (laws_FnExactBestSource.j1 kj15 l0 l1 t364 (t377 != t364) t359 t362 t363 t372 t375 t376) else (laws_FnExactBestSource.j1 kj15 l0 l1 t364 true t359 t362 t363 t372 t375 t376))))) = some r := H
   have A53 := za A530
   clear A530
   replace H := Option.bind_eq_some_iff.mp H
   obtain ⟨⟨t389, t390⟩, A540, H⟩ := H
   replace H : (if t389 < 0 then (laws_FnExactBestSource.j1 kj15 l0 l1 t364 true t359 t362 t363 t372 t375 t376) else ((laws_eqSourcing.f kj15 t372 t375 t376 t359 t362 t363).bind fun t391 => (if t391 = true then (laws_FnExactBestSource.j1 kj15 l0 l1 t364 (t377 != t364) t359 t362 t363 t372 t375 t376) else (laws_FnExactBestSource.j1 kj15 l0 l1 t364 true t359 t362 t363 t372 t375 t376)))) = some r := H
   obtain ⟨A54, HC55⟩ := zD2 A540 H
   clear A540 H
   go_upto_region 21 with (first | ((with_reducible refine gate_callee (f := 35) rfl ?_); refine goesL_ (some 56) rfl rfl Try.func35 zG106 rfl #[.slice A0 l0.length c0] rfl zG80 ?_; (with_reducible refine (laws_toSourceS.calls kj15 _ _ l0 t380 _ ?side1 ?side2 A47.out).mono ?_); (case side1 => exact zH75); (case side2 => exact zH128); rintro e w56 ⟨v381, rfl, ho0, hb⟩; refine ⟨_, rfl, ?_⟩; have n_ := zA_ (za (zav zK237 (Kd.S_base ho0) hb)) (zA_ (za (zt zG104 hb)) (zA_ (za (zt zG101 hb)) (zA_ (za (zt zG102 hb)) (zA_ (za (zbj (zbi (zbi ho0 (Kd.S_lt zK237)) (zak zG104)) (zp zG77))) (zA_ (za (zo (g := gb365) (o := .cells #[.slice Ao25 t359.length co25, .int .i64 t362, .int .i64 t363] 52 (0, 0)) zG91 hb)) (zA_ (za (zo (g := gb378) (o := .cells #[.slice Ao33 t372.length co33, .int .i64 t375, .int .i64 t376] 52 (0, 0)) zG92 hb)) (za (zq zG77 hb)))))))); clear HO_8 HO_9 HO_366000 HO_379000 BK365 BK378 HB; obtain ⟨HO_8, HO_9, HO_366000, HO_379000, HO382, BK365, BK378, HB⟩ := n_; (try clear hb); (try clear ho0); obtain ⟨Ao57, co57, eo57⟩ := zbl HO382.out; subst eo57) | ((with_reducible refine gate_callee (f := 38) rfl ?_); refine goesL_ (some 57) rfl rfl Try.func38 zG106 rfl #[.slice Ao29 t366.length co29, .slice Ao57 t380.length co57] rfl zG80 ?_; (with_reducible refine (laws_eqSourceS.calls kj15 _ _ t366 _ _ t380 true _ ?side1 ?side2 ?side3 ?side4 A48.out).mono ?_); (case side1 => exact zH78); (case side2 => exact (zan HO_8.out).2.1); (case side3 => exact zH77); (case side4 => exact (zan HO382.out).2.1); rintro e w58 ⟨rfl, hb⟩; refine ⟨_, rfl, ?_⟩; have n_ := zA_ (za (zam zK237 hb)) (zA_ (za (zt zG104 hb)) (zA_ (za (zt zG101 hb)) (zA_ (za (zt zG102 hb)) (zA_ (za (zam zK232 hb)) (zA_ (za (zo (g := gb365) (o := .cells #[.slice Ao25 t359.length co25, .int .i64 t362, .int .i64 t363] 52 (0, 0)) zG91 hb)) (zA_ (za (zo (g := gb378) (o := .cells #[.slice Ao33 t372.length co33, .int .i64 t375, .int .i64 t376] 52 (0, 0)) zG92 hb)) (za (zq zG77 hb)))))))); clear HO_8 HO_9 HO_366000 HO_379000 HO382 BK365 BK378 HB; obtain ⟨HO_8, HO_9, HO_366000, HO_379000, HO382, BK365, BK378, HB⟩ := n_; (try clear hb)) | ((with_reducible refine gate_callee (f := 36) rfl ?_); refine goesL_ (some 61) rfl rfl Try.func36 zG106 rfl #[.slice A1 l1.length c1] rfl zG80 ?_; (with_reducible refine (laws_toStockedS.calls kj15 _ _ l1 t384 _ ?side1 ?side2 A50.out).mono ?_); (case side1 => exact zH76); (case side2 => exact zH129); rintro e w59 ⟨v385, rfl, ho0, hb⟩; refine ⟨_, rfl, ?_⟩; have n_ := zA_ (za (zav zK237 (zai ho0) hb)) (zA_ (za (zaj zG104 (zai ho0) hb)) (zA_ (za (zt zG101 hb)) (zA_ (za (zt zG102 hb)) (zA_ (za (zav zK232 (zai ho0) hb)) (zA_ (za (zah (zal ho0 (zak zG104)) (zp zG77))) (zA_ (za (zo (g := gb365) (o := .cells #[.slice Ao25 t359.length co25, .int .i64 t362, .int .i64 t363] 52 (0, 0)) zG91 hb)) (zA_ (za (zo (g := gb378) (o := .cells #[.slice Ao33 t372.length co33, .int .i64 t375, .int .i64 t376] 52 (0, 0)) zG92 hb)) (za (zq zG77 hb))))))))); clear HO_8 HO_9 HO_366000 HO_379000 HO382 BK365 BK378 HB; obtain ⟨HO_8, HO_9, HO_366000, HO_379000, HO382, HO386, BK365, BK378, HB⟩ := n_; (try clear hb); (try clear ho0); obtain ⟨Ao60, co60, eo60⟩ := zaf HO386.out; subst eo60) | ((with_reducible refine gate_callee (f := 39) rfl ?_); refine goesL_ (some 62) rfl rfl Try.func39 zG106 rfl #[.slice Ao30 t369.length co30, .slice Ao60 t384.length co60] rfl zG80 ?_; (with_reducible refine (laws_eqStockedS.calls kj15 _ _ t369 _ _ t384 true _ ?side1 ?side2 ?side3 ?side4 A51.out).mono ?_); (case side1 => exact zH64); (case side2 => exact (Kd.R_reads' HO_9.out).2.1); (case side3 => exact zH63); (case side4 => exact (Kd.R_reads' HO386.out).2.1); rintro e w61 ⟨rfl, hb⟩; refine ⟨_, rfl, ?_⟩; have n_ := zA_ (za (zam zK237 hb)) (zA_ (za (zt zG104 hb)) (zA_ (za (zt zG101 hb)) (zA_ (za (zt zG102 hb)) (zA_ (za (zam zK232 hb)) (zA_ (za (zt zK244 hb)) (zA_ (za (zo (g := gb365) (o := .cells #[.slice Ao25 t359.length co25, .int .i64 t362, .int .i64 t363] 52 (0, 0)) zG91 hb)) (zA_ (za (zo (g := gb378) (o := .cells #[.slice Ao33 t372.length co33, .int .i64 t375, .int .i64 t376] 52 (0, 0)) zG92 hb)) (za (zq zG77 hb))))))))); clear HO_8 HO_9 HO_366000 HO_379000 HO382 HO386 BK365 BK378 HB; obtain ⟨HO_8, HO_9, HO_366000, HO_379000, HO382, HO386, BK365, BK378, HB⟩ := n_; (try clear hb)) | ((with_reducible refine gate_callee (f := 40) rfl ?_); refine goesL_ (some 66) rfl rfl Try.func40 zG106 rfl #[.slice Ao29 t366.length co29, .int .i64 1] rfl zG80 ?_; (with_reducible refine (laws_markSourceS.calls kj15 (fun k_ => ((some k_ ≠ (.slice Ao30 t369.length co30 : Value).ownBlock ∧ some k_ ≠ (.slice Ao57 t380.length co57 : Value).ownBlock) ∧ some k_ ≠ (.slice Ao60 t384.length co60 : Value).ownBlock)) (.slice Ao29 t366.length co29) t366 1 t388 w _ ?side1 ?side2 A53.out).mono ?_); (case side1 => exact zH62); (case side2 => exact Kd.S_R (HO_8.out)); rintro e w62 ⟨rfl, hb, hkp⟩; refine ⟨_, rfl, ?_⟩; have n_ := zA_ (za (zbe (ok := fun k_ => some k_ ≠ (.slice Ao60 t384.length co60 : Value).ownBlock) rfl (zau (zax rfl (HO_9.out)) hkp (fun k_ hk_ hs_ => (hs_.1.1.1) hk_)) (fun k_ e_ => ((HO_9.out).1 k_ e_).2))) (zA_ (za (zbe (ok := fun k_ => some k_ ≠ (.slice Ao33 t372.length co33 : Value).ownBlock) rfl (zau (zax rfl (HO_366000.out)) hkp (fun k_ hk_ hs_ => hv_ne2 hs_.2 (zbf (HO_366000.out)) hk_ zG107)) (fun k_ e_ => ((HO_366000.out).1 k_ e_)))) (zA_ (za (zbe (ok := fun k_ => some k_ ≠ (.slice Ao25 t359.length co25 : Value).ownBlock) rfl (zau (zax rfl (HO_379000.out)) hkp (fun k_ hk_ hs_ => hv_ne2 hs_.2 (zbf (HO_379000.out)) hk_ zG107)) (fun k_ e_ => ((HO_379000.out).1 k_ e_)))) (zA_ (za (zaq zG91 hkp (fun hs_ => hv_ne hs_.2 zG91 zG107))) (zA_ (za (zaq zG92 hkp (fun hs_ => hv_ne hs_.2 zG92 zG107))) (zA_ (za (zbe (ok := fun k_ => some k_ ≠ (.slice Ao30 t369.length co30 : Value).ownBlock) rfl (zau (zax rfl (HO386.out)) hkp (fun k_ hk_ hs_ => (hs_.1.2) hk_)) (fun k_ e_ => ((HO386.out).1 k_ e_).2))) (za (hb))))))); clear HO_9 HO_366000 HO_379000 BK365 BK378 HO386 HB HO382 HO_8; obtain ⟨HO_9, HO_366000, HO_379000, BK365, BK378, HO386, HB⟩ := n_; (try clear hb); (try clear hkp)) | ((with_reducible refine gate_callee (f := 41) rfl ?_); refine goesL_ (some 69) rfl rfl Try.func41 zG106 rfl #[.slice Ao30 t369.length co30, .int .i64 t388] rfl zG80 ?_; (with_reducible refine (laws_markStockedS.calls kj15 (fun k_ => some k_ = (.slice Ao30 t369.length co30 : Value).ownBlock) (.slice Ao30 t369.length co30) t369 t388 t389 t390 w _ ?side1 ?side2 A54.out).mono ?_); (case side1 => exact zH62); (case side2 => exact zax rfl HO_9.out); rintro e w63 ⟨rfl, hy0, hb, hkp⟩; refine ⟨_, rfl, ?_⟩; have n_ := zA_ (za (zbe rfl hy0 (fun k_ e_ => HO_9.out.1 k_ e_))) (zA_ (za (zx (ok' := fun k_ => some k_ ≠ (.slice Ao33 t372.length co33 : Value).ownBlock) (zau ((Kd.R_apart' HO_366000.out (zbf HO_9.out) zG107)) hkp (fun k_ hk_ hs_ => (hk_.2) hs_)) (fun k_ hk_ => hk_.1.1))) (zA_ (za (zx (ok' := fun k_ => some k_ ≠ (.slice Ao25 t359.length co25 : Value).ownBlock) (zau ((Kd.R_apart' HO_379000.out (zbf HO_9.out) zG107)) hkp (fun k_ hk_ hs_ => (hk_.2) hs_)) (fun k_ hk_ => hk_.1.1))) (zA_ (za (zaq zG91 hkp (fun hs_ => (fun e_ => (zap HO_9.out BK365.out zG107) e_) hs_))) (zA_ (za (zaq zG92 hkp (fun hs_ => (fun e_ => (zap HO_9.out BK378.out zG107) e_) hs_))) (zA_ (za (zx (ok' := fun k_ => some k_ ≠ (.slice Ao30 t369.length co30 : Value).ownBlock) (zau (HO386.out) hkp (fun k_ hk_ hs_ => (hk_) hs_)) (fun k_ hk_ => hk_.1))) (za (hb))))))); clear HO_9 HO_366000 HO_379000 BK365 BK378 HO386 HB; obtain ⟨HO_9, HO_366000, HO_379000, BK365, BK378, HO386, HB⟩ := n_; (try clear hb); (try clear hkp); (try clear hy0)))
   (try simp only [Act.put, List.setIfInBounds_toArray, List.set_cons_zero, List.set_cons_succ])
   go_cut [82] (fun v82 wc => ∃ (kq : Nat) (x82_54 : Bool), v82 = .bool x82_54 ∧ Aside0 (laws_FnExactBestSource.j1 kq l0 l1 t364 x82_54 t359 t362 t363 t372 t375 t376 = some r) ∧ Aside0 (kq ≤ kj15) ∧ Aside0 (Kd.R (Kd.int .i64) 3 wc w.heap.size (fun k_ => some k_ ≠ ((.slice Ao33 t372.length co33) : Value).ownBlock) (.slice Ao25 t359.length co25) t359) ∧ Aside0 (Kd.R (Kd.int .i64) 3 wc w.heap.size (fun k_ => some k_ ≠ ((.slice Ao25 t359.length co25) : Value).ownBlock) (.slice Ao33 t372.length co33) t372) ∧ Aside0 (wc.heap[gb365]? = some (.cells #[(.slice Ao25 t359.length co25), .int .i64 t362, .int .i64 t363] 52 (0, 0))) ∧ Aside0 (wc.heap[gb378]? = some (.cells #[(.slice Ao33 t372.length co33), .int .i64 t375, .int .i64 t376] 52 (0, 0))) ∧ Aside0 (Below w.heap.size w wc))
   case first =>
    have H := HC55.out
    clear HC55
    by_cases c64 : t389 < 0
    ·rw [if_pos c64] at H
     have c64b0 := decide_eq_true c64
     clear c64
     (first | rw [c64b0] | (simp only [i64_w, i32_w]; rw [c64b0]) | skip)
     have H' := za H
     clear H
     go_wp2
     go_meet
     case rel => exact ⟨_, (true), zG105, H', ⟨by have := HJ15.out; first | omega | exact Nat.le_refl _⟩, ⟨zH116⟩, ⟨zH117⟩, ⟨zH107⟩, ⟨zH108⟩, ⟨zH55⟩⟩
    rw [if_neg c64] at H
    have c64b0 := decide_eq_false c64
    clear c64
    (first | rw [c64b0] | (simp only [i64_w, i32_w]; rw [c64b0]) | skip)
    replace H := Option.bind_eq_some_iff.mp H
    obtain ⟨t391, A650, H⟩ := H
    replace H : (if t391 = true then (laws_FnExactBestSource.j1 kj15 l0 l1 t364 (t377 != t364) t359 t362 t363 t372 t375 t376) else (laws_FnExactBestSource.j1 kj15 l0 l1 t364 true t359 t362 t363 t372 t375 t376)) = some r := H
    have A65 := za A650
    clear A650
    by_cases c66 : t391 = true
    ·subst c66
     have H1 : (laws_FnExactBestSource.j1 kj15 l0 l1 t364 (t377 != t364) t359 t362 t363 t372 t375 t376) = some r := by rw [if_pos rfl] at H; exact H
     clear H
     have H := H1
     clear H1
     have H' := za H
     clear H
     have hnb67 := NB378_365.out
     have hnc67 := NB365_378.out
     obtain ⟨hcz68_0, hcz68_1, hcz68_2, hfz68_0, hfz68_1, hfz68_2⟩ := zB3 BK378.out
     obtain ⟨hcz69_0, hcz69_1, hcz69_2, hfz69_0, hfz69_1, hfz69_2⟩ := zB3 BK365.out
     go_wp2_with (first | (go_at_call 37; (with_reducible refine (laws_eqSourcing.calls kj15 _ _ t372 t375 t376 _ _ t359 t362 t363 true _ ?side1 ?side2 ?side3 ?side4 A65.out).mono ?_); (case side1 => exact zH59); (case side2 => exact zH126); (case side3 => exact zH57); (case side4 => exact (Kd.R_reads' HO_366000.out).2.1); rintro e w70 ⟨rfl, hb⟩; have n_ := zA_ (za (zt zG104 hb)) (zA_ (za (zt zG101 hb)) (zA_ (za (zt zG102 hb)) (zA_ (za (zt zK244 hb)) (zA_ (za (zo (g := gb365) (o := .cells #[.slice Ao25 t359.length co25, .int .i64 t362, .int .i64 t363] 52 (0, 0)) zG91 hb)) (zA_ (za (zo (g := gb378) (o := .cells #[.slice Ao33 t372.length co33, .int .i64 t375, .int .i64 t376] 52 (0, 0)) zG92 hb)) (za (zq zG77 hb))))))); clear HO_9 HO_366000 HO_379000 HO386 BK365 BK378 HB; obtain ⟨HO_9, HO_366000, HO_379000, HO386, BK365, BK378, HB⟩ := n_; (try clear hb)))
     go_meet
     case rel => exact ⟨_, ((t377 != t364)), zG105, H', ⟨by have := HJ15.out; first | omega | exact Nat.le_refl _⟩, ⟨zH116⟩, ⟨zH117⟩, ⟨zH107⟩, ⟨zH108⟩, ⟨zH55⟩⟩
    replace c66 := Bool.eq_false_iff.mpr c66
    subst c66
    have H1 : (laws_FnExactBestSource.j1 kj15 l0 l1 t364 true t359 t362 t363 t372 t375 t376) = some r := by rw [if_neg (show ¬ (false = true) by decide)] at H; exact H
    clear H
    have H := H1
    clear H1
    have H' := za H
    clear H
    have hnb71 := NB378_365.out
    have hnc71 := NB365_378.out
    obtain ⟨hcz72_0, hcz72_1, hcz72_2, hfz72_0, hfz72_1, hfz72_2⟩ := zB3 BK378.out
    obtain ⟨hcz73_0, hcz73_1, hcz73_2, hfz73_0, hfz73_1, hfz73_2⟩ := zB3 BK365.out
    go_wp2_with (first | (go_at_call 37; (with_reducible refine (laws_eqSourcing.calls kj15 _ _ t372 t375 t376 _ _ t359 t362 t363 false _ ?side1 ?side2 ?side3 ?side4 A65.out).mono ?_); (case side1 => exact zH59); (case side2 => exact zH126); (case side3 => exact zH57); (case side4 => exact (Kd.R_reads' HO_366000.out).2.1); rintro e w74 ⟨rfl, hb⟩; have n_ := zA_ (za (zt zG104 hb)) (zA_ (za (zt zG101 hb)) (zA_ (za (zt zG102 hb)) (zA_ (za (zt zK244 hb)) (zA_ (za (zo (g := gb365) (o := .cells #[.slice Ao25 t359.length co25, .int .i64 t362, .int .i64 t363] 52 (0, 0)) zG91 hb)) (zA_ (za (zo (g := gb378) (o := .cells #[.slice Ao33 t372.length co33, .int .i64 t375, .int .i64 t376] 52 (0, 0)) zG92 hb)) (za (zq zG77 hb))))))); clear HO_9 HO_366000 HO_379000 HO386 BK365 BK378 HB; obtain ⟨HO_9, HO_366000, HO_379000, HO386, BK365, BK378, HB⟩ := n_; (try clear hb)))
    go_meet
    case rel => exact ⟨_, (true), zG105, H', ⟨by have := HJ15.out; first | omega | exact Nat.le_refl _⟩, ⟨zH116⟩, ⟨zH117⟩, ⟨zH107⟩, ⟨zH108⟩, ⟨zH55⟩⟩
   case rest =>
    clear HC55
    try clear c1
    try clear c4
    try clear c4b0
    try clear c7
    try clear c7b0
    try clear c37
    try clear c46
    try clear c49
    try clear c52
    try clear c64
    try clear c64b0
    try clear c66
    try clear hcz26_0
    try clear hcz26_1
    try clear hcz26_2
    try clear hcz35_0
    try clear hcz35_1
    try clear hcz35_2
    try clear hcz39_0
    try clear hcz39_1
    try clear hcz39_2
    try clear hcz40_0
    try clear hcz40_1
    try clear hcz40_2
    try clear hcz43_0
    try clear hcz43_1
    try clear hcz43_2
    try clear hcz44_0
    try clear hcz44_1
    try clear hcz44_2
    try clear hcz68_0
    try clear hcz68_1
    try clear hcz68_2
    try clear hcz69_0
    try clear hcz69_1
    try clear hcz69_2
    try clear hcz72_0
    try clear hcz72_1
    try clear hcz72_2
    try clear hcz73_0
    try clear hcz73_1
    try clear hcz73_2
    try clear hfz26_0
    try clear hfz26_1
    try clear hfz26_2
    try clear hfz35_0
    try clear hfz35_1
    try clear hfz35_2
    try clear hfz39_0
    try clear hfz39_1
    try clear hfz39_2
    try clear hfz40_0
    try clear hfz40_1
    try clear hfz40_2
    try clear hfz43_0
    try clear hfz43_1
    try clear hfz43_2
    try clear hfz44_0
    try clear hfz44_1
    try clear hfz44_2
    try clear hfz68_0
    try clear hfz68_1
    try clear hfz68_2
    try clear hfz69_0
    try clear hfz69_1
    try clear hfz69_2
    try clear hfz72_0
    try clear hfz72_1
    try clear hfz72_2
    try clear hfz73_0
    try clear hfz73_1
    try clear hfz73_2
    obtain ⟨kq, x82_54, rfl, HA, HJ54, HO_366000, HO_379000, BK365, BK378, HB⟩ := hcut
    cases kq with
    | zero => exact absurd HA.out (by simp [laws_FnExactBestSource.j1])
    | succ kj54 =>
     have H := HA.out
     clear HA
     simp only [laws_FnExactBestSource.j1] at H
     by_cases c75 : x82_54 = true
     ·subst c75
      have H1 : (some false) = some r := by rw [if_pos rfl] at H; exact H
      clear H
      have H := H1
      clear H1
      obtain rfl := Option.some.inj H
      go_wp2
      go_ret
      exact zH26
     replace c75 := Bool.eq_false_iff.mpr c75
     subst c75
     have H1 : ((laws_markSourcing.f kj54 t372 t375 t376 1).bind fun bt392 => ((laws_heldSourcing.f kj54 bt392.2 t375 t376 1).bind fun t394 => (if t394 < 0 then (some false) else (if t394 = bt392.1 then ((laws_toSourceS.f kj54 l0).bind fun t395 => ((laws_toStockedS.f kj54 l1).bind fun t398 => ((impl_BestSource.f kj54 t395 t398).bind fun bt401 => ((laws_eqSourcing.f kj54 bt401.1 bt401.2.1 bt401.2.2.1 t359 t362 t363).bind fun t408 => (if t408 = true then (laws_FnExactBestSource.j2 kj54 bt392.1 (bt401.2.2.2 != t364) bt392.2 t375 t376) else (laws_FnExactBestSource.j2 kj54 bt392.1 true bt392.2 t375 t376)))))) else (some false))))) = some r := by rw [if_neg (show ¬ (false = true) by decide)] at H; exact H
     clear H
     have H := H1
     clear H1
     replace H := Option.bind_eq_some_iff.mp H
     obtain ⟨⟨t392, t393⟩, A760, H⟩ := H
     replace H : ((laws_heldSourcing.f kj54 t393 t375 t376 1).bind fun t394 => (if t394 < 0 then (some false) else (if t394 = t392 then ((laws_toSourceS.f kj54 l0).bind fun t395 => ((laws_toStockedS.f kj54 l1).bind fun t398 => ((impl_BestSource.f kj54 t395 t398).bind fun bt401 => ((laws_eqSourcing.f kj54 bt401.1 bt401.2.1 bt401.2.2.1 t359 t362 t363).bind fun t408 => (if t408 = true then (laws_FnExactBestSource.j2 kj54 t392 (bt401.2.2.2 != t364) t393 t375 t376) else (laws_FnExactBestSource.j2 kj54 t392 true t393 t375 t376)))))) else (some false)))) = some r := H
     have A76 := za A760
     clear A760
     replace H := Option.bind_eq_some_iff.mp H
     obtain ⟨t394, A770, H⟩ := H
     replace H : (if t394 < 0 then (some false) else (if t394 = t392 then ((laws_toSourceS.f kj54 l0).bind fun t395 => ((laws_toStockedS.f kj54 l1).bind fun t398 => ((impl_BestSource.f kj54 t395 t398).bind fun bt401 => ((laws_eqSourcing.f kj54 bt401.1 bt401.2.1 bt401.2.2.1 t359 t362 t363).bind fun t408 => (if t408 = true then (laws_FnExactBestSource.j2 kj54 t392 (bt401.2.2.2 != t364) t393 t375 t376) else (laws_FnExactBestSource.j2 kj54 t392 true t393 t375 t376)))))) else (some false))) = some r := H
     have A77 := za A770
     clear A770
     by_cases c78 : t394 < 0
     ·rw [if_pos c78] at H
      have c78b0 := decide_eq_true c78
      clear c78
      obtain rfl := Option.some.inj H
      have hnb79 := NB378_365.out
      have hnc79 := NB365_378.out
      obtain ⟨hcz80_0, hcz80_1, hcz80_2, hfz80_0, hfz80_1, hfz80_2⟩ := zB3 BK378.out
      go_wp2_with (first | ((with_reducible refine gate_callee (f := 42) rfl ?_); refine goesL_ (some 85) rfl rfl Try.func42 zG106 rfl #[.agg #[.slice Ao33 t372.length co33, .int .i64 t375, .int .i64 t376], .int .i64 1] rfl zG80 ?_; (with_reducible refine (laws_markSourcing.calls kj54 (fun k_ => some k_ = (.slice Ao33 t372.length co33 : Value).ownBlock) (.slice Ao33 t372.length co33) t372 t375 t376 1 t392 t393 w _ ?side1 ?side2 A76.out).mono ?_); (case side1 => exact zH62); (case side2 => exact zax rfl HO_379000.out); rintro e w81 ⟨rfl, hy0, hb, hkp⟩; refine ⟨_, rfl, ?_⟩; have n_ := zA_ (za (zx (ok' := fun k_ => some k_ ≠ (.slice Ao33 t372.length co33 : Value).ownBlock) (zau (HO_366000.out) hkp (fun k_ hk_ hs_ => (hk_) hs_)) (fun k_ hk_ => hk_.1))) (zA_ (za (zbe rfl hy0 (fun k_ e_ => HO_379000.out.1 k_ e_))) (zA_ (za (zaq zG91 hkp (fun hs_ => (fun e_ => (zap HO_379000.out BK365.out zG107) e_) hs_))) (zA_ (za (zaq zG92 hkp (fun hs_ => (fun e_ => (zap HO_379000.out BK378.out zG107) e_) hs_))) (za (hb))))); clear HO_366000 HO_379000 BK365 BK378 HB; obtain ⟨HO_366000, HO_379000, BK365, BK378, HB⟩ := n_; (try clear hb); (try clear hkp); (try clear hy0); obtain ⟨hcz82_0, hcz82_1, hcz82_2, hfz82_0, hfz82_1, hfz82_2⟩ := zB3 BK378.out) | ((with_reducible refine gate_callee (f := 43) rfl ?_); refine goesL_ (some 88) rfl rfl Try.func43 zG106 rfl #[.agg #[.slice Ao33 t393.length co33, .int .i64 t375, .int .i64 t376], .int .i64 1] rfl zK180 ?_; (with_reducible refine (laws_heldSourcing.calls kj54 _ _ t393 t375 t376 1 t394 _ ?side1 ?side2 A77.out).mono ?_); (case side1 => exact zH59); (case side2 => exact zH93); rintro e w83 ⟨rfl, hb⟩; refine ⟨_, rfl, ?_⟩; have n_ := zA_ (za (zt zG101 hb)) (zA_ (za (zt zG102 hb)) (zA_ (za (zo (g := gb365) (o := .cells #[.slice Ao25 t359.length co25, .int .i64 t362, .int .i64 t363] 52 (0, 0)) zG91 hb)) (zA_ (za (zo (g := gb378) (o := .cells #[.slice Ao33 t372.length co33, .int .i64 t375, .int .i64 t376] 52 (0, 0)) zG92 hb)) (za (zq zG77 hb))))); clear HO_366000 HO_379000 BK365 BK378 HB; obtain ⟨HO_366000, HO_379000, BK365, BK378, HB⟩ := n_; (try clear hb)))
      go_ret
      exact zH26
     rw [if_neg c78] at H
     have c78b0 := decide_eq_false c78
     clear c78
     by_cases c84 : t394 = t392
     rotate_left
     ·rw [if_neg c84] at H
      have c84b0 : (t394 == t392) = false := beq_eq_false_iff_ne.mpr c84
      have c84b1 : (t394 != t392) = true := bne_iff_ne.mpr c84
      obtain rfl := Option.some.inj H
      have hnb134 := NB378_365.out
      have hnc134 := NB365_378.out
      obtain ⟨hcz135_0, hcz135_1, hcz135_2, hfz135_0, hfz135_1, hfz135_2⟩ := zB3 BK378.out
      go_wp2_with (first | ((with_reducible refine gate_callee (f := 42) rfl ?_); refine goesL_ (some 85) rfl rfl Try.func42 zG106 rfl #[.agg #[.slice Ao33 t372.length co33, .int .i64 t375, .int .i64 t376], .int .i64 1] rfl zG80 ?_; (with_reducible refine (laws_markSourcing.calls kj54 (fun k_ => some k_ = (.slice Ao33 t372.length co33 : Value).ownBlock) (.slice Ao33 t372.length co33) t372 t375 t376 1 t392 t393 w _ ?side1 ?side2 A76.out).mono ?_); (case side1 => exact zH62); (case side2 => exact zax rfl HO_379000.out); rintro e w136 ⟨rfl, hy0, hb, hkp⟩; refine ⟨_, rfl, ?_⟩; have n_ := zA_ (za (zx (ok' := fun k_ => some k_ ≠ (.slice Ao33 t372.length co33 : Value).ownBlock) (zau (HO_366000.out) hkp (fun k_ hk_ hs_ => (hk_) hs_)) (fun k_ hk_ => hk_.1))) (zA_ (za (zbe rfl hy0 (fun k_ e_ => HO_379000.out.1 k_ e_))) (zA_ (za (zaq zG91 hkp (fun hs_ => (fun e_ => (zap HO_379000.out BK365.out zG107) e_) hs_))) (zA_ (za (zaq zG92 hkp (fun hs_ => (fun e_ => (zap HO_379000.out BK378.out zG107) e_) hs_))) (za (hb))))); clear HO_366000 HO_379000 BK365 BK378 HB; obtain ⟨HO_366000, HO_379000, BK365, BK378, HB⟩ := n_; (try clear hb); (try clear hkp); (try clear hy0); obtain ⟨hcz137_0, hcz137_1, hcz137_2, hfz137_0, hfz137_1, hfz137_2⟩ := zB3 BK378.out) | ((with_reducible refine gate_callee (f := 43) rfl ?_); refine goesL_ (some 88) rfl rfl Try.func43 zG106 rfl #[.agg #[.slice Ao33 t393.length co33, .int .i64 t375, .int .i64 t376], .int .i64 1] rfl zK180 ?_; (with_reducible refine (laws_heldSourcing.calls kj54 _ _ t393 t375 t376 1 t394 _ ?side1 ?side2 A77.out).mono ?_); (case side1 => exact zH59); (case side2 => exact zH93); rintro e w138 ⟨rfl, hb⟩; refine ⟨_, rfl, ?_⟩; have n_ := zA_ (za (zt zG101 hb)) (zA_ (za (zt zG102 hb)) (zA_ (za (zo (g := gb365) (o := .cells #[.slice Ao25 t359.length co25, .int .i64 t362, .int .i64 t363] 52 (0, 0)) zG91 hb)) (zA_ (za (zo (g := gb378) (o := .cells #[.slice Ao33 t372.length co33, .int .i64 t375, .int .i64 t376] 52 (0, 0)) zG92 hb)) (za (zq zG77 hb))))); clear HO_366000 HO_379000 BK365 BK378 HB; obtain ⟨HO_366000, HO_379000, BK365, BK378, HB⟩ := n_; (try clear hb)))
      go_ret
      exact zH26
     rw [if_pos c84] at H
     have c84b0 : (t394 == t392) = true := beq_iff_eq.mpr c84
     have c84b1 : (t394 != t392) = false := bne_eq_false_iff_eq.mpr c84
     clear c84
     replace H := Option.bind_eq_some_iff.mp H
     obtain ⟨t395, A850, H⟩ := H
     replace H : ((laws_toStockedS.f kj54 l1).bind fun t398 => ((impl_BestSource.f kj54 t395 t398).bind fun bt401 => ((laws_eqSourcing.f kj54 bt401.1 bt401.2.1 bt401.2.2.1 t359 t362 t363).bind fun t408 => (if t408 = true then (laws_FnExactBestSource.j2 kj54 t392 (bt401.2.2.2 != t364) t393 t375 t376) else (laws_FnExactBestSource.j2 kj54 t392 true t393 t375 t376))))) = some r := H
     have A85 := za A850
     clear A850
     replace H := Option.bind_eq_some_iff.mp H
     obtain ⟨t398, A860, H⟩ := H
     replace H : ((impl_BestSource.f kj54 t395 t398).bind fun bt401 => ((laws_eqSourcing.f kj54 bt401.1 bt401.2.1 bt401.2.2.1 t359 t362 t363).bind fun t408 => (if t408 = true then (laws_FnExactBestSource.j2 kj54 t392 (bt401.2.2.2 != t364) t393 t375 t376) else (laws_FnExactBestSource.j2 kj54 t392 true t393 t375 t376)))) = some r := H
     have A86 := za A860
     clear A860
     replace H := Option.bind_eq_some_iff.mp H
     obtain ⟨⟨t401, t404, t405, t406⟩, A870, H⟩ := H
     replace H : ((laws_eqSourcing.f kj54 t401 t404 t405 t359 t362 t363).bind fun t408 => (if t408 = true then (laws_FnExactBestSource.j2 kj54 t392 (t406 != t364) t393 t375 t376) else (laws_FnExactBestSource.j2 kj54 t392 true t393 t375 t376))) = some r := H
     obtain ⟨A87, HC88⟩ := zD2 A870 H
     clear A870 H
     have hnb89 := NB378_365.out
     have hnc89 := NB365_378.out
     obtain ⟨hcz90_0, hcz90_1, hcz90_2, hfz90_0, hfz90_1, hfz90_2⟩ := zB3 BK378.out
     go_upto_region 32 with (first | ((with_reducible refine gate_callee (f := 42) rfl ?_); refine goesL_ (some 85) rfl rfl Try.func42 zG106 rfl #[.agg #[.slice Ao33 t372.length co33, .int .i64 t375, .int .i64 t376], .int .i64 1] rfl zG80 ?_; (with_reducible refine (laws_markSourcing.calls kj54 (fun k_ => some k_ = (.slice Ao33 t372.length co33 : Value).ownBlock) (.slice Ao33 t372.length co33) t372 t375 t376 1 t392 t393 w _ ?side1 ?side2 A76.out).mono ?_); (case side1 => exact zH62); (case side2 => exact zax rfl HO_379000.out); rintro e w91 ⟨rfl, hy0, hb, hkp⟩; refine ⟨_, rfl, ?_⟩; have n_ := zA_ (za (zx (ok' := fun k_ => some k_ ≠ (.slice Ao33 t372.length co33 : Value).ownBlock) (zau (HO_366000.out) hkp (fun k_ hk_ hs_ => (hk_) hs_)) (fun k_ hk_ => hk_.1))) (zA_ (za (zbe rfl hy0 (fun k_ e_ => HO_379000.out.1 k_ e_))) (zA_ (za (zaq zG91 hkp (fun hs_ => (fun e_ => (zap HO_379000.out BK365.out zG107) e_) hs_))) (zA_ (za (zaq zG92 hkp (fun hs_ => (fun e_ => (zap HO_379000.out BK378.out zG107) e_) hs_))) (za (hb))))); clear HO_366000 HO_379000 BK365 BK378 HB; obtain ⟨HO_366000, HO_379000, BK365, BK378, HB⟩ := n_; (try clear hb); (try clear hkp); (try clear hy0); obtain ⟨hcz92_0, hcz92_1, hcz92_2, hfz92_0, hfz92_1, hfz92_2⟩ := zB3 BK378.out) | ((with_reducible refine gate_callee (f := 43) rfl ?_); refine goesL_ (some 88) rfl rfl Try.func43 zG106 rfl #[.agg #[.slice Ao33 t393.length co33, .int .i64 t375, .int .i64 t376], .int .i64 1] rfl zK180 ?_; (with_reducible refine (laws_heldSourcing.calls kj54 _ _ t393 t375 t376 1 t394 _ ?side1 ?side2 A77.out).mono ?_); (case side1 => exact zH59); (case side2 => exact zH93); rintro e w93 ⟨rfl, hb⟩; refine ⟨_, rfl, ?_⟩; have n_ := zA_ (za (zt zG101 hb)) (zA_ (za (zt zG102 hb)) (zA_ (za (zo (g := gb365) (o := .cells #[.slice Ao25 t359.length co25, .int .i64 t362, .int .i64 t363] 52 (0, 0)) zG91 hb)) (zA_ (za (zo (g := gb378) (o := .cells #[.slice Ao33 t372.length co33, .int .i64 t375, .int .i64 t376] 52 (0, 0)) zG92 hb)) (za (zq zG77 hb))))); clear HO_366000 HO_379000 BK365 BK378 HB; obtain ⟨HO_366000, HO_379000, BK365, BK378, HB⟩ := n_; (try clear hb)) | ((with_reducible refine gate_callee (f := 35) rfl ?_); refine goesL_ (some 96) rfl rfl Try.func35 zG106 rfl #[.slice A0 l0.length c0] rfl zG80 ?_; (with_reducible refine (laws_toSourceS.calls kj54 _ _ l0 t395 _ ?side1 ?side2 A85.out).mono ?_); (case side1 => exact zH75); (case side2 => exact zH128); rintro e w94 ⟨v396, rfl, ho0, hb⟩; refine ⟨_, rfl, ?_⟩; have n_ := zA_ (za (zt zG101 hb)) (zA_ (za (zt zG102 hb)) (zA_ (za (zbj ho0 (zp zG77))) (zA_ (za (zo (g := gb365) (o := .cells #[.slice Ao25 t359.length co25, .int .i64 t362, .int .i64 t363] 52 (0, 0)) zG91 hb)) (zA_ (za (zo (g := gb378) (o := .cells #[.slice Ao33 t372.length co33, .int .i64 t375, .int .i64 t376] 52 (0, 0)) zG92 hb)) (za (zq zG77 hb)))))); clear HO_366000 HO_379000 BK365 BK378 HB; obtain ⟨HO_366000, HO_379000, HO397, BK365, BK378, HB⟩ := n_; (try clear hb); (try clear ho0)) | ((with_reducible refine gate_callee (f := 36) rfl ?_); refine goesL_ (some 98) rfl rfl Try.func36 zG106 rfl #[.slice A1 l1.length c1] rfl zG80 ?_; (with_reducible refine (laws_toStockedS.calls kj54 _ _ l1 t398 _ ?side1 ?side2 A86.out).mono ?_); (case side1 => exact zH76); (case side2 => exact zH129); rintro e w95 ⟨v399, rfl, ho0, hb⟩; refine ⟨_, rfl, ?_⟩; have n_ := zA_ (za (zt zG101 hb)) (zA_ (za (zt zG102 hb)) (zA_ (za (zav zK233 (zai ho0) hb)) (zA_ (za (zah ho0 (zp zG77))) (zA_ (za (zo (g := gb365) (o := .cells #[.slice Ao25 t359.length co25, .int .i64 t362, .int .i64 t363] 52 (0, 0)) zG91 hb)) (zA_ (za (zo (g := gb378) (o := .cells #[.slice Ao33 t372.length co33, .int .i64 t375, .int .i64 t376] 52 (0, 0)) zG92 hb)) (za (zq zG77 hb))))))); clear HO_366000 HO_379000 HO397 BK365 BK378 HB; obtain ⟨HO_366000, HO_379000, HO397, HO400, BK365, BK378, HB⟩ := n_; (try clear hb); (try clear ho0); obtain ⟨Ao96, co96, eo96⟩ := zbl HO397.out; subst eo96; obtain ⟨Ao97, co97, eo97⟩ := zaf HO400.out; subst eo97) | ((with_reducible refine gate_callee (f := 24) rfl ?_); refine goesL_ (some 99) rfl rfl Try.func24 zG106 rfl #[.slice Ao96 t395.length co96, .slice Ao97 t398.length co97] rfl zG80 ?_; (with_reducible refine (impl_BestSource.calls kj54 _ _ t395 _ _ t398 t401 t404 t405 t406 _ ?side1 ?side2 ?side3 ?side4 A87.out).mono ?_); (case side1 => repeat (first | exact (zan HO397.out).2.2 | (with_reducible refine zu ?_ _) | (with_reducible refine zv ?_ _) | (with_reducible refine zy ?_))); (case side2 => exact (zan HO397.out).2.1); (case side3 => repeat (first | exact (Kd.R_reads' HO400.out).2.2 | (with_reducible refine zu ?_ _) | (with_reducible refine zv ?_ _) | (with_reducible refine zy ?_))); (case side4 => exact (Kd.R_reads' HO400.out).2.1); rintro e w98 ⟨v402, rfl, ho0, hb⟩; refine ⟨_, rfl, ?_⟩; have n_ := zA_ (za (zaj zG101 (zai ho0) hb)) (zA_ (za (zaj zG102 (zai ho0) hb)) (zA_ (za (zam zK233 hb)) (zA_ (za (zt (by (with_reducible repeat (first | apply zl | apply zm | apply zn)); exact HO400.out) hb)) (zA_ (za (zah (zal (zal ho0 (zak zG101)) (zak zG102)) (zp zG77))) (zA_ (za (zo (g := gb365) (o := .cells #[.slice Ao25 t359.length co25, .int .i64 t362, .int .i64 t363] 52 (0, 0)) zG91 hb)) (zA_ (za (zo (g := gb378) (o := .cells #[.slice Ao33 t372.length co33, .int .i64 t375, .int .i64 t376] 52 (0, 0)) zG92 hb)) (za (zq zG77 hb)))))))); clear HO_366000 HO_379000 HO397 HO400 BK365 BK378 HB; obtain ⟨HO_366000, HO_379000, HO397, HO400, HO403, BK365, BK378, HB⟩ := n_; (try clear hb); (try clear ho0)) | ((with_reducible refine gate_dst (N := 15) rfl ?_); refine box_event ?hg (N := 15) ?hd (cs := #[.slice none 0 0, .int .i64 0, .int .i64 0]) (t := 52) ?hr ?_; (case hd => rfl); (case hg => rfl); (case hr => exact zH124); intro gb407 hg w99 hbox hb; have n_ := zA_ (za (zt zG101 hb)) (zA_ (za (zt zG102 hb)) (zA_ (za (zam zK233 hb)) (zA_ (za (zt (by (with_reducible repeat (first | apply zl | apply zm | apply zn)); exact HO400.out) hb)) (zA_ (za (zt (by (with_reducible repeat (first | apply zl | apply zm | apply zn)); exact HO403.out) hb)) (zA_ (za (zo (g := gb365) (o := .cells #[.slice Ao25 t359.length co25, .int .i64 t362, .int .i64 t363] 52 (0, 0)) zG91 hb)) (zA_ (za (zo (g := gb378) (o := .cells #[.slice Ao33 t372.length co33, .int .i64 t375, .int .i64 t376] 52 (0, 0)) zG92 hb)) (zA_ (za (zq zG77 hb)) (zA_ (za (hbox)) (zA_ (zN1 w.heap.size hg (zp zG77)) (zA_ (zN1 w.heap.size hg (zp zG77)) (zN3 hg (zz (g := gb365) (o := .cells #[.slice Ao25 t359.length co25, .int .i64 t362, .int .i64 t363] 52 (0, 0)) zG91) (zN2 hg (zz (g := gb378) (o := .cells #[.slice Ao33 t372.length co33, .int .i64 t375, .int .i64 t376] 52 (0, 0)) zG92))))))))))))); clear HO_366000 HO_379000 HO397 HO400 HO403 BK365 BK378 HB; obtain ⟨HO_366000, HO_379000, HO397, HO400, HO403, BK365, BK378, HB, BK407, GW407, GE407, NB365_407, NB407_365, NB378_407, NB407_378⟩ := n_; clear hb hbox hg; obtain ⟨Ao100, co100, eo100⟩ := zaf HO403.out; subst eo100; have hnb101 := NB407_365.out; have hnc101 := NB365_407.out; have hnb102 := NB407_378.out; have hnc102 := NB378_407.out; obtain ⟨hcz103_0, hcz103_1, hcz103_2, hfz103_0, hfz103_1, hfz103_2⟩ := zB3 BK407.out))
     (try simp only [Act.put, List.setIfInBounds_toArray, List.set_cons_zero, List.set_cons_succ])
     go_cut [110] (fun v110 wc => ∃ (kq : Nat) (x110_87 : Bool), v110 = .bool x110_87 ∧ Aside0 (laws_FnExactBestSource.j2 kq t392 x110_87 t393 t375 t376 = some r) ∧ Aside0 (kq ≤ kj54) ∧ Aside0 (Kd.R (Kd.int .i64) 3 wc w.heap.size (fun k_ => some k_ ≠ ((.slice Ao33 t372.length co33) : Value).ownBlock ∧ some k_ ≠ ((.slice Ao100 t401.length co100) : Value).ownBlock) (.slice Ao25 t359.length co25) t359) ∧ Aside0 (Kd.R (Kd.int .i64) 3 wc w.heap.size (fun k_ => some k_ ≠ ((.slice Ao25 t359.length co25) : Value).ownBlock ∧ some k_ ≠ ((.slice Ao100 t401.length co100) : Value).ownBlock) (.slice Ao33 t372.length co33) t393) ∧ Aside0 (Kd.R (Kd.int .i64) 3 wc w.heap.size (fun k_ => some k_ ≠ ((.slice Ao25 t359.length co25) : Value).ownBlock ∧ some k_ ≠ ((.slice Ao33 t372.length co33) : Value).ownBlock) (.slice Ao100 t401.length co100) t401) ∧ Aside0 (wc.heap[gb365]? = some (.cells #[(.slice Ao25 t359.length co25), .int .i64 t362, .int .i64 t363] 52 (0, 0))) ∧ Aside0 (wc.heap[gb378]? = some (.cells #[(.slice Ao33 t372.length co33), .int .i64 t375, .int .i64 t376] 52 (0, 0))) ∧ Aside0 (wc.heap[gb407]? = some (.cells #[(.slice Ao100 t401.length co100), .int .i64 t404, .int .i64 t405] 52 (0, 0))) ∧ Aside0 (Below w.heap.size w wc))
     case first =>
      have H := HC88.out
      clear HC88
      replace H := Option.bind_eq_some_iff.mp H
      obtain ⟨t408, A1040, H⟩ := H
      replace H : (if t408 = true then (laws_FnExactBestSource.j2 kj54 t392 (t406 != t364) t393 t375 t376) else (laws_FnExactBestSource.j2 kj54 t392 true t393 t375 t376)) = some r := H
      have A104 := za A1040
      clear A1040
      by_cases c105 : t408 = true
      ·subst c105
       have H1 : (laws_FnExactBestSource.j2 kj54 t392 (t406 != t364) t393 t375 t376) = some r := by rw [if_pos rfl] at H; exact H
       clear H
       have H := H1
       clear H1
       have H' := za H
       clear H
       have hnb106 := NB407_365.out
       have hnc106 := NB365_407.out
       have hnb107 := NB407_378.out
       have hnc107 := NB378_407.out
       obtain ⟨hcz108_0, hcz108_1, hcz108_2, hfz108_0, hfz108_1, hfz108_2⟩ := zB3 BK407.out
       have hnb109 := NB365_378.out
       have hnc109 := NB378_365.out
       obtain ⟨hcz110_0, hcz110_1, hcz110_2, hfz110_0, hfz110_1, hfz110_2⟩ := zB3 BK365.out
       go_wp2_with (first | ((with_reducible refine gate_callee (f := 37) rfl ?_); refine goesL_ (some 104) rfl rfl Try.func37 zG106 rfl #[.agg #[.slice Ao100 t401.length co100, .int .i64 t404, .int .i64 t405], .agg #[.slice Ao25 t359.length co25, .int .i64 t362, .int .i64 t363]] rfl zG80 ?_; (with_reducible refine (laws_eqSourcing.calls kj54 _ _ t401 t404 t405 _ _ t359 t362 t363 true _ ?side1 ?side2 ?side3 ?side4 A104.out).mono ?_); (case side1 => exact zH2); (case side2 => exact (Kd.R_reads' HO403.out).2.1); (case side3 => exact zH3); (case side4 => exact (Kd.R_reads' HO_366000.out).2.1); rintro e w111 ⟨rfl, hb⟩; refine ⟨_, rfl, ?_⟩; have n_ := zA_ (za (zt zK154 hb)) (zA_ (za (zt zK155 hb)) (zA_ (za (zam zK150 hb)) (zA_ (za (zt zK156 hb)) (zA_ (za (zt zK157 hb)) (zA_ (za (zo (g := gb365) (o := .cells #[.slice Ao25 t359.length co25, .int .i64 t362, .int .i64 t363] 52 (0, 0)) zK142 hb)) (zA_ (za (zo (g := gb378) (o := .cells #[.slice Ao33 t372.length co33, .int .i64 t375, .int .i64 t376] 52 (0, 0)) zK143 hb)) (zA_ (za (zo (g := gb407) (o := .cells #[.slice Ao100 t401.length co100, .int .i64 t404, .int .i64 t405] 52 (0, 0)) zK132 hb)) (za (zq zK182 hb))))))))); clear HO_366000 HO_379000 HO397 HO400 HO403 BK365 BK378 BK407 HB; obtain ⟨HO_366000, HO_379000, HO397, HO400, HO403, BK365, BK378, BK407, HB⟩ := n_; (try clear hb); (try clear hk)))
       go_meet
       case rel => exact ⟨_, ((t406 != t364)), zG105, H', ⟨by have := HJ15.out; have := HJ54.out; first | omega | exact Nat.le_refl _⟩, ⟨zH116⟩, ⟨zH117⟩, ⟨zH92⟩, ⟨zH107⟩, ⟨zH108⟩, ⟨by (with_reducible repeat (first | refine zc ?_ _ | refine ze ?_ | refine zb ?_ _)); exact BK407.out⟩, ⟨zH45⟩⟩
      replace c105 := Bool.eq_false_iff.mpr c105
      subst c105
      have H1 : (laws_FnExactBestSource.j2 kj54 t392 true t393 t375 t376) = some r := by rw [if_neg (show ¬ (false = true) by decide)] at H; exact H
      clear H
      have H := H1
      clear H1
      have H' := za H
      clear H
      have hnb112 := NB407_365.out
      have hnc112 := NB365_407.out
      have hnb113 := NB407_378.out
      have hnc113 := NB378_407.out
      obtain ⟨hcz114_0, hcz114_1, hcz114_2, hfz114_0, hfz114_1, hfz114_2⟩ := zB3 BK407.out
      have hnb115 := NB365_378.out
      have hnc115 := NB378_365.out
      obtain ⟨hcz116_0, hcz116_1, hcz116_2, hfz116_0, hfz116_1, hfz116_2⟩ := zB3 BK365.out
      go_wp2_with (first | ((with_reducible refine gate_callee (f := 37) rfl ?_); refine goesL_ (some 104) rfl rfl Try.func37 zG106 rfl #[.agg #[.slice Ao100 t401.length co100, .int .i64 t404, .int .i64 t405], .agg #[.slice Ao25 t359.length co25, .int .i64 t362, .int .i64 t363]] rfl zG80 ?_; (with_reducible refine (laws_eqSourcing.calls kj54 _ _ t401 t404 t405 _ _ t359 t362 t363 false _ ?side1 ?side2 ?side3 ?side4 A104.out).mono ?_); (case side1 => exact zH2); (case side2 => exact (Kd.R_reads' HO403.out).2.1); (case side3 => exact zH3); (case side4 => exact (Kd.R_reads' HO_366000.out).2.1); rintro e w117 ⟨rfl, hb⟩; refine ⟨_, rfl, ?_⟩; have n_ := zA_ (za (zt zK154 hb)) (zA_ (za (zt zK155 hb)) (zA_ (za (zam zK150 hb)) (zA_ (za (zt zK156 hb)) (zA_ (za (zt zK157 hb)) (zA_ (za (zo (g := gb365) (o := .cells #[.slice Ao25 t359.length co25, .int .i64 t362, .int .i64 t363] 52 (0, 0)) zK142 hb)) (zA_ (za (zo (g := gb378) (o := .cells #[.slice Ao33 t372.length co33, .int .i64 t375, .int .i64 t376] 52 (0, 0)) zK143 hb)) (zA_ (za (zo (g := gb407) (o := .cells #[.slice Ao100 t401.length co100, .int .i64 t404, .int .i64 t405] 52 (0, 0)) zK132 hb)) (za (zq zK182 hb))))))))); clear HO_366000 HO_379000 HO397 HO400 HO403 BK365 BK378 BK407 HB; obtain ⟨HO_366000, HO_379000, HO397, HO400, HO403, BK365, BK378, BK407, HB⟩ := n_; (try clear hb); (try clear hk)))
      go_meet
      case rel => exact ⟨_, (true), zG105, H', ⟨by have := HJ15.out; have := HJ54.out; first | omega | exact Nat.le_refl _⟩, ⟨zH116⟩, ⟨zH117⟩, ⟨zH92⟩, ⟨zH107⟩, ⟨zH108⟩, ⟨by (with_reducible repeat (first | refine zc ?_ _ | refine ze ?_ | refine zb ?_ _)); exact BK407.out⟩, ⟨zH45⟩⟩
     case rest =>
      clear HC88
      try clear c1
      try clear c4
      try clear c4b0
      try clear c7
      try clear c7b0
      try clear c37
      try clear c46
      try clear c49
      try clear c52
      try clear c64
      try clear c64b0
      try clear c66
      try clear c75
      try clear c78
      try clear c78b0
      try clear c84
      try clear c84b0
      try clear c84b1
      try clear c105
      try clear hcz103_0
      try clear hcz103_1
      try clear hcz103_2
      try clear hcz108_0
      try clear hcz108_1
      try clear hcz108_2
      try clear hcz110_0
      try clear hcz110_1
      try clear hcz110_2
      try clear hcz114_0
      try clear hcz114_1
      try clear hcz114_2
      try clear hcz116_0
      try clear hcz116_1
      try clear hcz116_2
      try clear hcz26_0
      try clear hcz26_1
      try clear hcz26_2
      try clear hcz35_0
      try clear hcz35_1
      try clear hcz35_2
      try clear hcz39_0
      try clear hcz39_1
      try clear hcz39_2
      try clear hcz40_0
      try clear hcz40_1
      try clear hcz40_2
      try clear hcz43_0
      try clear hcz43_1
      try clear hcz43_2
      try clear hcz44_0
      try clear hcz44_1
      try clear hcz44_2
      try clear hcz68_0
      try clear hcz68_1
      try clear hcz68_2
      try clear hcz69_0
      try clear hcz69_1
      try clear hcz69_2
      try clear hcz72_0
      try clear hcz72_1
      try clear hcz72_2
      try clear hcz73_0
      try clear hcz73_1
      try clear hcz73_2
      try clear hcz80_0
      try clear hcz80_1
      try clear hcz80_2
      try clear hcz82_0
      try clear hcz82_1
      try clear hcz82_2
      try clear hcz90_0
      try clear hcz90_1
      try clear hcz90_2
      try clear hcz92_0
      try clear hcz92_1
      try clear hcz92_2
      try clear hfz103_0
      try clear hfz103_1
      try clear hfz103_2
      try clear hfz108_0
      try clear hfz108_1
      try clear hfz108_2
      try clear hfz110_0
      try clear hfz110_1
      try clear hfz110_2
      try clear hfz114_0
      try clear hfz114_1
      try clear hfz114_2
      try clear hfz116_0
      try clear hfz116_1
      try clear hfz116_2
      try clear hfz26_0
      try clear hfz26_1
      try clear hfz26_2
      try clear hfz35_0
      try clear hfz35_1
      try clear hfz35_2
      try clear hfz39_0
      try clear hfz39_1
      try clear hfz39_2
      try clear hfz40_0
      try clear hfz40_1
      try clear hfz40_2
      try clear hfz43_0
      try clear hfz43_1
      try clear hfz43_2
      try clear hfz44_0
      try clear hfz44_1
      try clear hfz44_2
      try clear hfz68_0
      try clear hfz68_1
      try clear hfz68_2
      try clear hfz69_0
      try clear hfz69_1
      try clear hfz69_2
      try clear hfz72_0
      try clear hfz72_1
      try clear hfz72_2
      try clear hfz73_0
      try clear hfz73_1
      try clear hfz73_2
      try clear hfz80_0
      try clear hfz80_1
      try clear hfz80_2
      try clear hfz82_0
      try clear hfz82_1
      try clear hfz82_2
      try clear hfz90_0
      try clear hfz90_1
      try clear hfz90_2
      try clear hfz92_0
      try clear hfz92_1
      try clear hfz92_2
      obtain ⟨kq, x110_87, rfl, HA, HJ87, HO_366000, HO_379000, HO_408000, BK365, BK378, BK407, HB⟩ := hcut
      have hl379000_87 := (Kd.R_reads' HO_379000.out).1
      rw [hl379000_87] at HO_379000
      (try simp only [hl379000_87])
      (try simp only [hl379000_87] at BK365)
      (try simp only [hl379000_87] at BK378)
      (try simp only [hl379000_87] at BK407)
      (try simp only [hl379000_87] at HO_366000)
      (try simp only [hl379000_87] at HO_408000)
      cases kq with
      | zero => exact absurd HA.out (by simp [laws_FnExactBestSource.j2])
      | succ kj87 =>
       have H := HA.out
       clear HA
       simp only [laws_FnExactBestSource.j2] at H
       by_cases c118 : x110_87 = true
       ·subst c118
        have H1 : (some false) = some r := by rw [if_pos rfl] at H; exact H
        clear H
        have H := H1
        clear H1
        obtain rfl := Option.some.inj H
        go_wp2
        go_ret
        exact zH18
       replace c118 := Bool.eq_false_iff.mpr c118
       subst c118
       have H1 : ((laws_heldSourcing.f kj87 t393 t375 t376 1).bind fun t409 => (if t409 < 0 then (some false) else (if t409 = t392 then (some true) else (some false)))) = some r := by rw [if_neg (show ¬ (false = true) by decide)] at H; exact H
       clear H
       have H := H1
       clear H1
       replace H := Option.bind_eq_some_iff.mp H
       obtain ⟨t409, A1190, H⟩ := H
       replace H : (if t409 < 0 then (some false) else (if t409 = t392 then (some true) else (some false))) = some r := H
       have A119 := za A1190
       clear A1190
       by_cases c120 : t409 < 0
       ·rw [if_pos c120] at H
        have c120b0 := decide_eq_true c120
        clear c120
        obtain rfl := Option.some.inj H
        have hnb121 := NB378_365.out
        have hnc121 := NB365_378.out
        have hnb122 := NB378_407.out
        have hnc122 := NB407_378.out
        obtain ⟨hcz123_0, hcz123_1, hcz123_2, hfz123_0, hfz123_1, hfz123_2⟩ := zB3 BK378.out
        go_wp2_with (first | ((with_reducible refine gate_callee (f := 43) rfl ?_); refine goesL_ (some 113) rfl rfl Try.func43 zG106 rfl #[.agg #[.slice Ao33 t393.length co33, .int .i64 t375, .int .i64 t376], .int .i64 1] rfl zG80 ?_; (with_reducible refine (laws_heldSourcing.calls kj87 _ _ t393 t375 t376 1 t409 _ ?side1 ?side2 A119.out).mono ?_); (case side1 => exact zH59); (case side2 => exact zH126); rintro e w124 ⟨rfl, hb⟩; refine ⟨_, rfl, ?_⟩; have n_ := zA_ (za (zt zG101 hb)) (zA_ (za (zt zG102 hb)) (zA_ (za (zt zK228 hb)) (zA_ (za (zo (g := gb365) (o := .cells #[.slice Ao25 t359.length co25, .int .i64 t362, .int .i64 t363] 52 (0, 0)) zG91 hb)) (zA_ (za (zo (g := gb378) (o := .cells #[.slice Ao33 t393.length co33, .int .i64 t375, .int .i64 t376] 52 (0, 0)) zG92 hb)) (zA_ (za (zo (g := gb407) (o := .cells #[.slice Ao100 t401.length co100, .int .i64 t404, .int .i64 t405] 52 (0, 0)) zK219 hb)) (za (zq zK182 hb))))))); clear HO_366000 HO_379000 HO_408000 BK365 BK378 BK407 HB; obtain ⟨HO_366000, HO_379000, HO_408000, BK365, BK378, BK407, HB⟩ := n_; (try clear hb)))
        go_ret
        exact zH18
       rw [if_neg c120] at H
       have c120b0 := decide_eq_false c120
       clear c120
       by_cases c125 : t409 = t392
       rotate_left
       ·rw [if_neg c125] at H
        have c125b0 : (t409 == t392) = false := beq_eq_false_iff_ne.mpr c125
        have c125b1 : (t409 != t392) = true := bne_iff_ne.mpr c125
        obtain rfl := Option.some.inj H
        have hnb130 := NB378_365.out
        have hnc130 := NB365_378.out
        have hnb131 := NB378_407.out
        have hnc131 := NB407_378.out
        obtain ⟨hcz132_0, hcz132_1, hcz132_2, hfz132_0, hfz132_1, hfz132_2⟩ := zB3 BK378.out
        go_wp2_with (first | ((with_reducible refine gate_callee (f := 43) rfl ?_); refine goesL_ (some 113) rfl rfl Try.func43 zG106 rfl #[.agg #[.slice Ao33 t393.length co33, .int .i64 t375, .int .i64 t376], .int .i64 1] rfl zG80 ?_; (with_reducible refine (laws_heldSourcing.calls kj87 _ _ t393 t375 t376 1 t409 _ ?side1 ?side2 A119.out).mono ?_); (case side1 => exact zH59); (case side2 => exact zH126); rintro e w133 ⟨rfl, hb⟩; refine ⟨_, rfl, ?_⟩; have n_ := zA_ (za (zt zG101 hb)) (zA_ (za (zt zG102 hb)) (zA_ (za (zt zK228 hb)) (zA_ (za (zo (g := gb365) (o := .cells #[.slice Ao25 t359.length co25, .int .i64 t362, .int .i64 t363] 52 (0, 0)) zG91 hb)) (zA_ (za (zo (g := gb378) (o := .cells #[.slice Ao33 t393.length co33, .int .i64 t375, .int .i64 t376] 52 (0, 0)) zG92 hb)) (zA_ (za (zo (g := gb407) (o := .cells #[.slice Ao100 t401.length co100, .int .i64 t404, .int .i64 t405] 52 (0, 0)) zK219 hb)) (za (zq zK182 hb))))))); clear HO_366000 HO_379000 HO_408000 BK365 BK378 BK407 HB; obtain ⟨HO_366000, HO_379000, HO_408000, BK365, BK378, BK407, HB⟩ := n_; (try clear hb)))
        go_ret
        exact zH18
       rw [if_pos c125] at H
       have c125b0 : (t409 == t392) = true := beq_iff_eq.mpr c125
       have c125b1 : (t409 != t392) = false := bne_eq_false_iff_eq.mpr c125
       clear c125
       obtain rfl := Option.some.inj H
       have hnb126 := NB378_365.out
       have hnc126 := NB365_378.out
       have hnb127 := NB378_407.out
       have hnc127 := NB407_378.out
       obtain ⟨hcz128_0, hcz128_1, hcz128_2, hfz128_0, hfz128_1, hfz128_2⟩ := zB3 BK378.out
       go_wp2_with (first | ((with_reducible refine gate_callee (f := 43) rfl ?_); refine goesL_ (some 113) rfl rfl Try.func43 zG106 rfl #[.agg #[.slice Ao33 t393.length co33, .int .i64 t375, .int .i64 t376], .int .i64 1] rfl zG80 ?_; (with_reducible refine (laws_heldSourcing.calls kj87 _ _ t393 t375 t376 1 t409 _ ?side1 ?side2 A119.out).mono ?_); (case side1 => exact zH59); (case side2 => exact zH126); rintro e w129 ⟨rfl, hb⟩; refine ⟨_, rfl, ?_⟩; have n_ := zA_ (za (zt zG101 hb)) (zA_ (za (zt zG102 hb)) (zA_ (za (zt zK228 hb)) (zA_ (za (zo (g := gb365) (o := .cells #[.slice Ao25 t359.length co25, .int .i64 t362, .int .i64 t363] 52 (0, 0)) zG91 hb)) (zA_ (za (zo (g := gb378) (o := .cells #[.slice Ao33 t393.length co33, .int .i64 t375, .int .i64 t376] 52 (0, 0)) zG92 hb)) (zA_ (za (zo (g := gb407) (o := .cells #[.slice Ao100 t401.length co100, .int .i64 t404, .int .i64 t405] 52 (0, 0)) zK219 hb)) (za (zq zK182 hb))))))); clear HO_366000 HO_379000 HO_408000 BK365 BK378 BK407 HB; obtain ⟨HO_366000, HO_379000, HO_408000, BK365, BK378, BK407, HB⟩ := n_; (try clear hb)))
       go_ret
       exact zH18
end Go.Proofs.Ytojncbpeeboooaa.V
