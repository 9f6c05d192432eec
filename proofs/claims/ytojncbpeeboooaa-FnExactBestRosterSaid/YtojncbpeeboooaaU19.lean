-- squeezed
-- made by pp.py (wip/tools) out of the translation; Lean checks it
import Derived.Test.YtojncbpeeboooaaU0
import Derived.Test.YtojncbpeeboooaaU8
import Derived.Test.YtojncbpeeboooaaU14
import Derived.Test.YtojncbpeeboooaaU15
import Derived.Test.YtojncbpeeboooaaU16
import Derived.Test.YtojncbpeeboooaaU17
import Derived.Test.YtojncbpeeboooaaU18
namespace Go.Proofs.Ytojncbpeeboooaa.U
open Go.RowKit Go.Proofs.YtojncbpeeboooaaW.PrintWords Go.Proofs.YtojncbpeeboooaaW.PrintLast Go.Proofs.YtojncbpeeboooaaW.PrintMore
attribute [local go_sem] max2_int min2_int max_two min_two max_three min_three max_four min_four   -- for this text's walks alone
set_option linter.unusedVariables false
set_option linter.unusedSimpArgs false


/-! ### laws_FnExactBestRoster: function 8 -/
mutual
def laws_FnExactBestRoster.j0 : Nat → List (S159) → List (S161) → Int → List (S139) → List (S72) → Int → Bool → List Int → Int → List Int → Int → Option (Bool)
 | 0, _, _, _, _, _, _, _, _, _, _, _ => none
 | k + 1, x0, x1, x7, x8, x9, x11, x53, x342000, x342001, x354000, x354001 => if x53 = true then (some false) else ((laws_toShiftS.f k x0).bind fun t355 => ((laws_eqShiftS.f k x8 t355).bind fun t358 => (if t358 = true then ((laws_toWorkerS.f k x1).bind fun t359 => ((laws_eqWorkerS.f k x9 t359).bind fun t362 => (if t362 = true then ((laws_markShiftS.f k x8 1).bind fun bt363 => ((laws_markWorkerS.f k x9 bt363.1).bind fun t365 => (if t365 < 0 then (laws_FnExactBestRoster.j1 k x0 x1 x7 true x342000 x342001 x354000 x354001) else ((laws_eqRoster.f k x354000 x354001 x342000 x342001).bind fun t366 => (if t366 = true then (laws_FnExactBestRoster.j1 k x0 x1 x7 (x11 != x7) x342000 x342001 x354000 x354001) else (laws_FnExactBestRoster.j1 k x0 x1 x7 true x342000 x342001 x354000 x354001)))))) else (some false)))) else (some false))))
def laws_FnExactBestRoster.j1 : Nat → List (S159) → List (S161) → Int → Bool → List Int → Int → List Int → Int → Option (Bool)
 | 0, _, _, _, _, _, _, _, _ => none
 | k + 1, x0, x1, x7, x82, x342000, x342001, x354000, x354001 => if x82 = true then (some false) else ((laws_markRoster.f k x354000 x354001 1).bind fun bt367 => ((laws_heldRoster.f k bt367.2 x354001 1).bind fun t369 => (if t369 < 0 then (some false) else (if t369 = bt367.1 then ((laws_toShiftS.f k x0).bind fun t370 => ((laws_toWorkerS.f k x1).bind fun t373 => ((impl_BestRoster.f k t370 t373).bind fun bt376 => ((laws_eqRoster.f k bt376.1 bt376.2.1 x342000 x342001).bind fun t382 => (if t382 = true then (laws_FnExactBestRoster.j2 k bt367.1 (bt376.2.2 != x7) bt367.2 x354001) else (laws_FnExactBestRoster.j2 k bt367.1 true bt367.2 x354001)))))) else (some false)))))
def laws_FnExactBestRoster.j2 : Nat → Int → Bool → List Int → Int → Option (Bool)
 | 0, _, _, _, _ => none
 | k + 1, x13, x110, x354000, x354001 => if x110 = true then (some false) else ((laws_heldRoster.f k x354000 x354001 1).bind fun t383 => (if t383 < 0 then (some false) else (if t383 = x13 then (some true) else (some false))))
end
def laws_FnExactBestRoster.f (k : Nat) (l0 : List (S159)) (l1 : List (S161)) : Option (Bool) := (laws_szShiftS.f k l0 1048576).bind fun t328 => (if t328 < 0 then (some true) else ((laws_szWorkerS.f k l1 t328).bind fun t329 => (if t329 < 0 then (some true) else ((laws_toShiftS.f k l0).bind fun t330 => ((laws_toWorkerS.f k l1).bind fun t333 => ((spec_BestRoster.f k t330 t333).bind fun bt336 => ((laws_toShiftS.f k l0).bind fun t342 => ((laws_toWorkerS.f k l1).bind fun t345 => ((impl_BestRoster.f k t342 t345).bind fun bt348 => ((laws_eqRoster.f k bt348.1 bt348.2.1 bt336.1 bt336.2.1).bind fun t354 => (if t354 = true then (laws_FnExactBestRoster.j0 k l0 l1 bt336.2.2 t342 t345 bt348.2.2 (bt348.2.2 != bt336.2.2) bt336.1 bt336.2.1 bt348.1 bt348.2.1) else (laws_FnExactBestRoster.j0 k l0 l1 bt336.2.2 t342 t345 bt348.2.2 true bt336.1 bt336.2.1 bt348.1 bt348.2.1))))))))))))
theorem laws_FnExactBestRoster.mono_l : ∀ k, (∀ y0 y1 y2 y3 y4 y5 y6 y7 y8 y9 y10, LeO (laws_FnExactBestRoster.j0 k y0 y1 y2 y3 y4 y5 y6 y7 y8 y9 y10) (laws_FnExactBestRoster.j0 (k + 1) y0 y1 y2 y3 y4 y5 y6 y7 y8 y9 y10)) ∧ (∀ y0 y1 y2 y3 y4 y5 y6 y7, LeO (laws_FnExactBestRoster.j1 k y0 y1 y2 y3 y4 y5 y6 y7) (laws_FnExactBestRoster.j1 (k + 1) y0 y1 y2 y3 y4 y5 y6 y7)) ∧ (∀ y0 y1 y2 y3, LeO (laws_FnExactBestRoster.j2 k y0 y1 y2 y3) (laws_FnExactBestRoster.j2 (k + 1) y0 y1 y2 y3))
 | 0 => ⟨fun _ _ _ _ _ _ _ _ _ _ _ r h => by simp [laws_FnExactBestRoster.j0] at h, fun _ _ _ _ _ _ _ _ r h => by simp [laws_FnExactBestRoster.j1] at h, fun _ _ _ _ r h => by simp [laws_FnExactBestRoster.j2] at h⟩
 | k + 1 => by
  obtain ⟨ih0, ih1, ih2⟩ := laws_FnExactBestRoster.mono_l k
  refine ⟨?_, ?_, ?_⟩
  ·intro y0 y1 y2 y3 y4 y5 y6 y7 y8 y9 y10
   unfold laws_FnExactBestRoster.j0
   repeat' first
   | (with_reducible exact ih0 _ _ _ _ _ _ _ _ _ _ _)
   | (with_reducible exact ih1 _ _ _ _ _ _ _ _)
   | (with_reducible exact ih2 _ _ _ _)
   | (with_reducible exact impl_BestRoster.mono _ _ _)
   | (with_reducible exact laws_eqRoster.mono _ _ _ _ _)
   | (with_reducible exact laws_eqShiftS.mono _ _ _)
   | (with_reducible exact laws_eqWorkerS.mono _ _ _)
   | (with_reducible exact laws_heldRoster.mono _ _ _ _)
   | (with_reducible exact laws_markRoster.mono _ _ _ _)
   | (with_reducible exact laws_markShiftS.mono _ _ _)
   | (with_reducible exact laws_markWorkerS.mono _ _ _)
   | (with_reducible exact laws_szShiftS.mono _ _ _)
   | (with_reducible exact laws_szWorkerS.mono _ _ _)
   | (with_reducible exact laws_toShiftS.mono _ _)
   | (with_reducible exact laws_toWorkerS.mono _ _)
   | (with_reducible exact spec_BestRoster.mono _ _ _)
   | (with_reducible exact LeO.refl _)
   | (with_reducible exact LeO.none _)
   | (with_reducible refine LeO.ite ?_ ?_)
   | (with_reducible refine LeO.bind ?_ (fun _ => ?_))
   | exact ih0 _ _ _ _ _ _ _ _ _ _ _
   | exact ih1 _ _ _ _ _ _ _ _
   | exact ih2 _ _ _ _
   | exact impl_BestRoster.mono _ _ _
   | exact laws_eqRoster.mono _ _ _ _ _
   | exact laws_eqShiftS.mono _ _ _
   | exact laws_eqWorkerS.mono _ _ _
   | exact laws_heldRoster.mono _ _ _ _
   | exact laws_markRoster.mono _ _ _ _
   | exact laws_markShiftS.mono _ _ _
   | exact laws_markWorkerS.mono _ _ _
   | exact laws_szShiftS.mono _ _ _
   | exact laws_szWorkerS.mono _ _ _
   | exact laws_toShiftS.mono _ _
   | exact laws_toWorkerS.mono _ _
   | exact spec_BestRoster.mono _ _ _
   | exact LeO.none _
   | refine LeO.ite ?_ ?_
   | refine LeO.bind ?_ (fun _ => ?_)
  ·intro y0 y1 y2 y3 y4 y5 y6 y7
   unfold laws_FnExactBestRoster.j1
   repeat' first
   | (with_reducible exact ih0 _ _ _ _ _ _ _ _ _ _ _)
   | (with_reducible exact ih1 _ _ _ _ _ _ _ _)
   | (with_reducible exact ih2 _ _ _ _)
   | (with_reducible exact impl_BestRoster.mono _ _ _)
   | (with_reducible exact laws_eqRoster.mono _ _ _ _ _)
   | (with_reducible exact laws_eqShiftS.mono _ _ _)
   | (with_reducible exact laws_eqWorkerS.mono _ _ _)
   | (with_reducible exact laws_heldRoster.mono _ _ _ _)
   | (with_reducible exact laws_markRoster.mono _ _ _ _)
   | (with_reducible exact laws_markShiftS.mono _ _ _)
   | (with_reducible exact laws_markWorkerS.mono _ _ _)
   | (with_reducible exact laws_szShiftS.mono _ _ _)
   | (with_reducible exact laws_szWorkerS.mono _ _ _)
   | (with_reducible exact laws_toShiftS.mono _ _)
   | (with_reducible exact laws_toWorkerS.mono _ _)
   | (with_reducible exact spec_BestRoster.mono _ _ _)
   | (with_reducible exact LeO.refl _)
   | (with_reducible exact LeO.none _)
   | (with_reducible refine LeO.ite ?_ ?_)
   | (with_reducible refine LeO.bind ?_ (fun _ => ?_))
   | exact ih0 _ _ _ _ _ _ _ _ _ _ _
   | exact ih1 _ _ _ _ _ _ _ _
   | exact ih2 _ _ _ _
   | exact impl_BestRoster.mono _ _ _
   | exact laws_eqRoster.mono _ _ _ _ _
   | exact laws_eqShiftS.mono _ _ _
   | exact laws_eqWorkerS.mono _ _ _
   | exact laws_heldRoster.mono _ _ _ _
   | exact laws_markRoster.mono _ _ _ _
   | exact laws_markShiftS.mono _ _ _
   | exact laws_markWorkerS.mono _ _ _
   | exact laws_szShiftS.mono _ _ _
   | exact laws_szWorkerS.mono _ _ _
   | exact laws_toShiftS.mono _ _
   | exact laws_toWorkerS.mono _ _
   | exact spec_BestRoster.mono _ _ _
   | exact LeO.none _
   | refine LeO.ite ?_ ?_
   | refine LeO.bind ?_ (fun _ => ?_)
  ·intro y0 y1 y2 y3
   unfold laws_FnExactBestRoster.j2
   repeat' first
   | (with_reducible exact ih0 _ _ _ _ _ _ _ _ _ _ _)
   | (with_reducible exact ih1 _ _ _ _ _ _ _ _)
   | (with_reducible exact ih2 _ _ _ _)
   | (with_reducible exact impl_BestRoster.mono _ _ _)
   | (with_reducible exact laws_eqRoster.mono _ _ _ _ _)
   | (with_reducible exact laws_eqShiftS.mono _ _ _)
   | (with_reducible exact laws_eqWorkerS.mono _ _ _)
   | (with_reducible exact laws_heldRoster.mono _ _ _ _)
   | (with_reducible exact laws_markRoster.mono _ _ _ _)
   | (with_reducible exact laws_markShiftS.mono _ _ _)
   | (with_reducible exact laws_markWorkerS.mono _ _ _)
   | (with_reducible exact laws_szShiftS.mono _ _ _)
   | (with_reducible exact laws_szWorkerS.mono _ _ _)
   | (with_reducible exact laws_toShiftS.mono _ _)
   | (with_reducible exact laws_toWorkerS.mono _ _)
   | (with_reducible exact spec_BestRoster.mono _ _ _)
   | (with_reducible exact LeO.refl _)
   | (with_reducible exact LeO.none _)
   | (with_reducible refine LeO.ite ?_ ?_)
   | (with_reducible refine LeO.bind ?_ (fun _ => ?_))
   | exact ih0 _ _ _ _ _ _ _ _ _ _ _
   | exact ih1 _ _ _ _ _ _ _ _
   | exact ih2 _ _ _ _
   | exact impl_BestRoster.mono _ _ _
   | exact laws_eqRoster.mono _ _ _ _ _
   | exact laws_eqShiftS.mono _ _ _
   | exact laws_eqWorkerS.mono _ _ _
   | exact laws_heldRoster.mono _ _ _ _
   | exact laws_markRoster.mono _ _ _ _
   | exact laws_markShiftS.mono _ _ _
   | exact laws_markWorkerS.mono _ _ _
   | exact laws_szShiftS.mono _ _ _
   | exact laws_szWorkerS.mono _ _ _
   | exact laws_toShiftS.mono _ _
   | exact laws_toWorkerS.mono _ _
   | exact spec_BestRoster.mono _ _ _
   | exact LeO.none _
   | refine LeO.ite ?_ ?_
   | refine LeO.bind ?_ (fun _ => ?_)
theorem laws_FnExactBestRoster.mono : ∀ a0 a1 k, LeO (laws_FnExactBestRoster.f k a0 a1) (laws_FnExactBestRoster.f (k + 1) a0 a1) := by
 intro a0 a1 k
 obtain ⟨ih0, ih1, ih2⟩ := laws_FnExactBestRoster.mono_l k
 unfold laws_FnExactBestRoster.f
 repeat' first
   | (with_reducible exact ih0 _ _ _ _ _ _ _ _ _ _ _)
   | (with_reducible exact ih1 _ _ _ _ _ _ _ _)
   | (with_reducible exact ih2 _ _ _ _)
   | (with_reducible exact impl_BestRoster.mono _ _ _)
   | (with_reducible exact laws_eqRoster.mono _ _ _ _ _)
   | (with_reducible exact laws_eqShiftS.mono _ _ _)
   | (with_reducible exact laws_eqWorkerS.mono _ _ _)
   | (with_reducible exact laws_heldRoster.mono _ _ _ _)
   | (with_reducible exact laws_markRoster.mono _ _ _ _)
   | (with_reducible exact laws_markShiftS.mono _ _ _)
   | (with_reducible exact laws_markWorkerS.mono _ _ _)
   | (with_reducible exact laws_szShiftS.mono _ _ _)
   | (with_reducible exact laws_szWorkerS.mono _ _ _)
   | (with_reducible exact laws_toShiftS.mono _ _)
   | (with_reducible exact laws_toWorkerS.mono _ _)
   | (with_reducible exact spec_BestRoster.mono _ _ _)
   | (with_reducible exact LeO.refl _)
   | (with_reducible exact LeO.none _)
   | (with_reducible refine LeO.ite ?_ ?_)
   | (with_reducible refine LeO.bind ?_ (fun _ => ?_))
   | exact ih0 _ _ _ _ _ _ _ _ _ _ _
   | exact ih1 _ _ _ _ _ _ _ _
   | exact ih2 _ _ _ _
   | exact impl_BestRoster.mono _ _ _
   | exact laws_eqRoster.mono _ _ _ _ _
   | exact laws_eqShiftS.mono _ _ _
   | exact laws_eqWorkerS.mono _ _ _
   | exact laws_heldRoster.mono _ _ _ _
   | exact laws_markRoster.mono _ _ _ _
   | exact laws_markShiftS.mono _ _ _
   | exact laws_markWorkerS.mono _ _ _
   | exact laws_szShiftS.mono _ _ _
   | exact laws_szWorkerS.mono _ _ _
   | exact laws_toShiftS.mono _ _
   | exact laws_toWorkerS.mono _ _
   | exact spec_BestRoster.mono _ _ _
   | exact LeO.none _
   | refine LeO.ite ?_ ?_
   | refine LeO.bind ?_ (fun _ => ?_)
set_option maxHeartbeats 64000000 in
set_option maxRecDepth 100000 in
theorem laws_FnExactBestRoster.calls (k : Nat) (A0 : Option Addr) (c0 : Nat) (l0 : List (S159)) (A1 : Option Addr) (c1 : Nat) (l1 : List (S161)) (r : Bool) (w : World) (hr0 : Kd.C k159 w A0 l0.length l0) (hc0 : l0.length ≤ c0) (hr1 : Kd.C k161 w A1 l1.length l1) (hc1 : l1.length ≤ c1) (h : laws_FnExactBestRoster.f k l0 l1 = some r) :
  Calls Try.prog 8 #[.slice A0 l0.length c0, .slice A1 l1.length c1] w fun e w' => e = .returned (.bool r) ∧ Below w.heap.size w w' := by
 have hu64 := Try.underlying64
 obtain ⟨HR0, HC0, HR1, HC1, HB⟩ := zD5 hr0 hc0 hr1 hc1 (Below.refl w.heap.size w)
 clear hr0 hc0 hr1 hc1
 have H : ((laws_szShiftS.f k l0 1048576).bind fun t328 => (if t328 < 0 then (some true) else ((laws_szWorkerS.f k l1 t328).bind fun t329 => (if t329 < 0 then (some true) else ((laws_toShiftS.f k l0).bind fun t330 => ((laws_toWorkerS.f k l1).bind fun t333 => ((spec_BestRoster.f k t330 t333).bind fun bt336 => ((laws_toShiftS.f k l0).bind fun t342 => ((laws_toWorkerS.f k l1).bind fun t345 => ((impl_BestRoster.f k t342 t345).bind fun bt348 => ((laws_eqRoster.f k bt348.1 bt348.2.1 bt336.1 bt336.2.1).bind fun t354 => (if t354 = true then (laws_FnExactBestRoster.j0 k l0 l1 bt336.2.2 t342 t345 bt348.2.2 (bt348.2.2 != bt336.2.2) bt336.1 bt336.2.1 bt348.1 bt348.2.1) else (laws_FnExactBestRoster.j0 k l0 l1 bt336.2.2 t342 t345 bt348.2.2 true bt336.1 bt336.2.1 bt348.1 bt348.2.1))))))))))))) = some r := h
 clear h
 replace H := Option.bind_eq_some_iff.mp H
 obtain ⟨t328, A30, H⟩ := H
 replace H : (if t328 < 0 then (some true) else ((laws_szWorkerS.f k l1 t328).bind fun t329 => (if t329 < 0 then (some true) else ((laws_toShiftS.f k l0).bind fun t330 => ((laws_toWorkerS.f k l1).bind fun t333 => ((spec_BestRoster.f k t330 t333).bind fun bt336 => ((laws_toShiftS.f k l0).bind fun t342 => ((laws_toWorkerS.f k l1).bind fun t345 => ((impl_BestRoster.f k t342 t345).bind fun bt348 => ((laws_eqRoster.f k bt348.1 bt348.2.1 bt336.1 bt336.2.1).bind fun t354 => (if t354 = true then (laws_FnExactBestRoster.j0 k l0 l1 bt336.2.2 t342 t345 bt348.2.2 (bt348.2.2 != bt336.2.2) bt336.1 bt336.2.1 bt348.1 bt348.2.1) else (laws_FnExactBestRoster.j0 k l0 l1 bt336.2.2 t342 t345 bt348.2.2 true bt336.1 bt336.2.1 bt348.1 bt348.2.1)))))))))))) = some r := H
 have A3 := zb A30
 clear A30
 by_cases c4 : t328 < 0
 ·rw [if_pos c4] at H
  have c4b0 := decide_eq_true c4
  clear c4
  obtain rfl := Option.some.inj H
  go_enter Try.func8, Try.ntmps8
  go_wp2_with (first | ((with_reducible refine gate_callee (f := 44) rfl ?_); refine goesL_ (some 19) rfl rfl Try.func44 zG101 rfl #[.slice A0 l0.length c0, .int .i64 1048576] rfl zG67 ?_; (with_reducible refine (laws_szShiftS.calls k _ _ l0 1048576 t328 _ ?side1 ?side2 A3.out).mono ?_); (case side1 => exact zH70); (case side2 => exact HC0.out); rintro e w5 ⟨rfl, hb⟩; refine ⟨_, rfl, ?_⟩; replace HB := zb (zp zG77 hb); (try clear hb)))
  go_ret
  exact zH34
 rw [if_neg c4] at H
 have c4b0 := decide_eq_false c4
 clear c4
 replace H := Option.bind_eq_some_iff.mp H
 obtain ⟨t329, A60, H⟩ := H
 replace H : (if t329 < 0 then (some true) else ((laws_toShiftS.f k l0).bind fun t330 => ((laws_toWorkerS.f k l1).bind fun t333 => ((spec_BestRoster.f k t330 t333).bind fun bt336 => ((laws_toShiftS.f k l0).bind fun t342 => ((laws_toWorkerS.f k l1).bind fun t345 => ((impl_BestRoster.f k t342 t345).bind fun bt348 => ((laws_eqRoster.f k bt348.1 bt348.2.1 bt336.1 bt336.2.1).bind fun t354 => (if t354 = true then (laws_FnExactBestRoster.j0 k l0 l1 bt336.2.2 t342 t345 bt348.2.2 (bt348.2.2 != bt336.2.2) bt336.1 bt336.2.1 bt348.1 bt348.2.1) else (laws_FnExactBestRoster.j0 k l0 l1 bt336.2.2 t342 t345 bt348.2.2 true bt336.1 bt336.2.1 bt348.1 bt348.2.1)))))))))) = some r := H
 have A6 := zb A60
 clear A60
 by_cases c7 : t329 < 0
 ·rw [if_pos c7] at H
  have c7b0 := decide_eq_true c7
  clear c7
  obtain rfl := Option.some.inj H
  go_enter Try.func8, Try.ntmps8
  go_wp2_with (first | ((with_reducible refine gate_callee (f := 44) rfl ?_); refine goesL_ (some 19) rfl rfl Try.func44 zG101 rfl #[.slice A0 l0.length c0, .int .i64 1048576] rfl zG67 ?_; (with_reducible refine (laws_szShiftS.calls k _ _ l0 1048576 t328 _ ?side1 ?side2 A3.out).mono ?_); (case side1 => exact zH70); (case side2 => exact HC0.out); rintro e w8 ⟨rfl, hb⟩; refine ⟨_, rfl, ?_⟩; replace HB := zb (zp zG77 hb); (try clear hb)) | ((with_reducible refine gate_callee (f := 45) rfl ?_); refine goesL_ (some 24) rfl rfl Try.func45 zG101 rfl #[.slice A1 l1.length c1, .int .i64 t328] rfl zG67 ?_; (with_reducible refine (laws_szWorkerS.calls k _ _ l1 t328 t329 _ ?side1 ?side2 A6.out).mono ?_); (case side1 => exact zH61); (case side2 => exact HC1.out); rintro e w9 ⟨rfl, hb⟩; refine ⟨_, rfl, ?_⟩; replace HB := zb (zp zG77 hb); (try clear hb)))
  go_ret
  exact zH34
 rw [if_neg c7] at H
 have c7b0 := decide_eq_false c7
 clear c7
 replace H := Option.bind_eq_some_iff.mp H
 obtain ⟨t330, A100, H⟩ := H
 replace H : ((laws_toWorkerS.f k l1).bind fun t333 => ((spec_BestRoster.f k t330 t333).bind fun bt336 => ((laws_toShiftS.f k l0).bind fun t342 => ((laws_toWorkerS.f k l1).bind fun t345 => ((impl_BestRoster.f k t342 t345).bind fun bt348 => ((laws_eqRoster.f k bt348.1 bt348.2.1 bt336.1 bt336.2.1).bind fun t354 => (if t354 = true then (laws_FnExactBestRoster.j0 k l0 l1 bt336.2.2 t342 t345 bt348.2.2 (bt348.2.2 != bt336.2.2) bt336.1 bt336.2.1 bt348.1 bt348.2.1) else (laws_FnExactBestRoster.j0 k l0 l1 bt336.2.2 t342 t345 bt348.2.2 true bt336.1 bt336.2.1 bt348.1 bt348.2.1)))))))) = some r := H
 have A10 := zb A100
 clear A100
 replace H := Option.bind_eq_some_iff.mp H
 obtain ⟨t333, A110, H⟩ := H
 replace H : ((spec_BestRoster.f k t330 t333).bind fun bt336 => ((laws_toShiftS.f k l0).bind fun t342 => ((laws_toWorkerS.f k l1).bind fun t345 => ((impl_BestRoster.f k t342 t345).bind fun bt348 => ((laws_eqRoster.f k bt348.1 bt348.2.1 bt336.1 bt336.2.1).bind fun t354 => (if t354 = true then (laws_FnExactBestRoster.j0 k l0 l1 bt336.2.2 t342 t345 bt348.2.2 (bt348.2.2 != bt336.2.2) bt336.1 bt336.2.1 bt348.1 bt348.2.1) else (laws_FnExactBestRoster.j0 k l0 l1 bt336.2.2 t342 t345 bt348.2.2 true bt336.1 bt336.2.1 bt348.1 bt348.2.1))))))) = some r := H
 have A11 := zb A110
 clear A110
 replace H := Option.bind_eq_some_iff.mp H
 obtain ⟨⟨t336, t339, t340⟩, A120, H⟩ := H
 replace H : ((laws_toShiftS.f k l0).bind fun t342 => ((laws_toWorkerS.f k l1).bind fun t345 => ((impl_BestRoster.f k t342 t345).bind fun bt348 => ((laws_eqRoster.f k bt348.1 bt348.2.1 t336 t339).bind fun t354 => (if t354 = true then (laws_FnExactBestRoster.j0 k l0 l1 t340 t342 t345 bt348.2.2 (bt348.2.2 != t340) t336 t339 bt348.1 bt348.2.1) else (laws_FnExactBestRoster.j0 k l0 l1 t340 t342 t345 bt348.2.2 true t336 t339 bt348.1 bt348.2.1)))))) = some r := H
 have A12 := zb A120
 clear A120
 replace H := Option.bind_eq_some_iff.mp H
 obtain ⟨t342, A130, H⟩ := H
 replace H : ((laws_toWorkerS.f k l1).bind fun t345 => ((impl_BestRoster.f k t342 t345).bind fun bt348 => ((laws_eqRoster.f k bt348.1 bt348.2.1 t336 t339).bind fun t354 => (if t354 = true then (laws_FnExactBestRoster.j0 k l0 l1 t340 t342 t345 bt348.2.2 (bt348.2.2 != t340) t336 t339 bt348.1 bt348.2.1) else (laws_FnExactBestRoster.j0 k l0 l1 t340 t342 t345 bt348.2.2 true t336 t339 bt348.1 bt348.2.1))))) = some r := H
 have A13 := zb A130
 clear A130
 replace H := Option.bind_eq_some_iff.mp H
 obtain ⟨t345, A140, H⟩ := H
 replace H : ((impl_BestRoster.f k t342 t345).bind fun bt348 => ((laws_eqRoster.f k bt348.1 bt348.2.1 t336 t339).bind fun t354 => (if t354 = true then (laws_FnExactBestRoster.j0 k l0 l1 t340 t342 t345 bt348.2.2 (bt348.2.2 != t340) t336 t339 bt348.1 bt348.2.1) else (laws_FnExactBestRoster.j0 k l0 l1 t340 t342 t345 bt348.2.2 true t336 t339 bt348.1 bt348.2.1)))) = some r := H
 have A14 := zb A140
 clear A140
 replace H := Option.bind_eq_some_iff.mp H
 obtain ⟨⟨t348, t351, t352⟩, A150, H⟩ := H
 replace H : ((laws_eqRoster.f k t348 t351 t336 t339).bind fun t354 => (if t354 = true then (laws_FnExactBestRoster.j0 k l0 l1 t340 t342 t345 t352 (t352 != t340) t336 t339 t348 t351) else (laws_FnExactBestRoster.j0 k l0 l1 t340 t342 t345 t352 true t336 t339 t348 t351))) = some r := H
 obtain ⟨A15, HC16⟩ := zD2 A150 H
 clear A150 H
 go_enter Try.func8, Try.ntmps8
 go_upto_region 12 with (first | ((with_reducible refine gate_callee (f := 44) rfl ?_); refine goesL_ (some 19) rfl rfl Try.func44 zG101 rfl #[.slice A0 l0.length c0, .int .i64 1048576] rfl zG67 ?_; (with_reducible refine (laws_szShiftS.calls k _ _ l0 1048576 t328 _ ?side1 ?side2 A3.out).mono ?_); (case side1 => exact zH70); (case side2 => exact HC0.out); rintro e w17 ⟨rfl, hb⟩; refine ⟨_, rfl, ?_⟩; replace HB := zb (zp zG77 hb); (try clear hb); (try clear hk)) | ((with_reducible refine gate_callee (f := 45) rfl ?_); refine goesL_ (some 24) rfl rfl Try.func45 zG101 rfl #[.slice A1 l1.length c1, .int .i64 t328] rfl zG67 ?_; (with_reducible refine (laws_szWorkerS.calls k _ _ l1 t328 t329 _ ?side1 ?side2 A6.out).mono ?_); (case side1 => exact zH61); (case side2 => exact HC1.out); rintro e w18 ⟨rfl, hb⟩; refine ⟨_, rfl, ?_⟩; replace HB := zb (zp zG77 hb); (try clear hb); (try clear hk)) | ((with_reducible refine gate_callee (f := 46) rfl ?_); refine goesL_ (some 29) rfl rfl Try.func46 zG101 rfl #[.slice A0 l0.length c0] rfl zG67 ?_; (with_reducible refine (laws_toShiftS.calls k _ _ l0 t330 _ ?side1 ?side2 A10.out).mono ?_); (case side1 => exact zH62); (case side2 => exact HC0.out); rintro e w19 ⟨v331, rfl, ho0, hb⟩; refine ⟨_, rfl, ?_⟩; have n_ := zA_ (zb (zah ho0 (zo zG77))) (zb (zp zG77 hb)); clear HB; obtain ⟨HO332, HB⟩ := n_; (try clear hb); (try clear hk); (try clear ho0)) | ((with_reducible refine gate_callee (f := 47) rfl ?_); refine goesL_ (some 31) rfl rfl Try.func47 zG101 rfl #[.slice A1 l1.length c1] rfl zG67 ?_; (with_reducible refine (laws_toWorkerS.calls k _ _ l1 t333 _ ?side1 ?side2 A11.out).mono ?_); (case side1 => exact zH61); (case side2 => exact HC1.out); rintro e w20 ⟨v334, rfl, ho0, hb⟩; refine ⟨_, rfl, ?_⟩; have n_ := zA_ (zb (zr zK225 hb)) (zA_ (zb (zbg ho0 (zo zG77))) (zb (zp zG77 hb))); clear HO332 HB; obtain ⟨HO332, HO335, HB⟩ := n_; (try clear hb); (try clear hk); (try clear ho0); obtain ⟨Ao21, co21, eo21⟩ := zaf HO332.out; subst eo21; obtain ⟨Ao22, co22, eo22⟩ := zbj HO335.out; subst eo22) | ((with_reducible refine gate_callee (f := 32) rfl ?_); refine goesL_ (some 32) rfl rfl Try.func32 zG101 rfl #[.slice Ao21 t330.length co21, .slice Ao22 t333.length co22] rfl zG67 ?_; (with_reducible refine (spec_BestRoster.calls k _ _ t330 _ _ t333 t336 t339 t340 _ ?side1 ?side2 ?side3 ?side4 A12.out).mono ?_); (case side1 => repeat (first | exact (Kd.R_reads' HO332.out).2.2 | (with_reducible refine zt ?_ _) | (with_reducible refine zu ?_ _) | (with_reducible refine zv ?_))); (case side2 => exact (Kd.R_reads' HO332.out).2.1); (case side3 => repeat (first | exact (zao HO335.out).2.2 | (with_reducible refine zt ?_ _) | (with_reducible refine zu ?_ _) | (with_reducible refine zv ?_))); (case side4 => exact (zao HO335.out).2.1); rintro e w23 ⟨v337, rfl, ho0, hb⟩; refine ⟨_, rfl, ?_⟩; have n_ := zA_ (zb (zr zK225 hb)) (zA_ (zb (zai zK220 hb)) (zA_ (zb (zah ho0 (zo zG77))) (zb (zp zG77 hb)))); clear HO332 HO335 HB; obtain ⟨HO332, HO335, HO338, HB⟩ := n_; (try clear hb); (try clear hk); (try clear ho0)) | ((with_reducible refine gate_dst (N := 6) rfl ?_); refine box_event ?hg (N := 6) ?hd (cs := #[.slice none 0 0, .int .i64 0]) (t := 64) ?hr ?_; (case hd => rfl); (case hg => rfl); (case hr => exact zH117); intro gb341 hg w24 hbox hb; have n_ := zA_ (zb (zr zK225 hb)) (zA_ (zb (zai zK220 hb)) (zA_ (zb (zr zK226 hb)) (zA_ (zb (zp zG77 hb)) (zA_ (zb (hbox)) (zA_ (zN1 w.heap.size hg (zo zG77)) (zN1 w.heap.size hg (zo zG77))))))); clear HO332 HO335 HO338 HB; obtain ⟨HO332, HO335, HO338, HB, BK341, GW341, GE341⟩ := n_; clear hb hbox hg; obtain ⟨Ao25, co25, eo25⟩ := zaf HO338.out; subst eo25; obtain ⟨hcz26_0, hcz26_1, hfz26_0, hfz26_1⟩ := zB2 BK341.out) | ((with_reducible refine gate_callee (f := 46) rfl ?_); refine goesL_ (some 36) rfl rfl Try.func46 zG101 rfl #[.slice A0 l0.length c0] rfl zG67 ?_; (with_reducible refine (laws_toShiftS.calls k _ _ l0 t342 _ ?side1 ?side2 A13.out).mono ?_); (case side1 => exact zz HR0.out zG68); (case side2 => exact HC0.out); rintro e w27 ⟨v343, rfl, ho0, hb⟩; refine ⟨_, rfl, ?_⟩; have n_ := zA_ (zb (zam zK160 (zak ho0) hb)) (zA_ (zb (zai (by (with_reducible repeat (first | apply zac | apply zad | apply zae)); exact (zau (zaw (p := ⟨gb341, 1, none⟩) (zaw (p := ⟨gb341, 0, none⟩) (zbe HO335.out BK341.out (by decide)) (fun _ hk => hk.2) (.slice Ao25 t336.length co25)) (fun _ hk => hk.2) (.int .i64 t339)) (fun _ h_ => h_.1))) hb)) (zA_ (zb (zr (by (with_reducible repeat (first | apply zl | apply zm | apply zn)); exact (zx (zy (p := ⟨gb341, 1, none⟩) (zy (p := ⟨gb341, 0, none⟩) (zab HO338.out BK341.out (by decide)) (fun _ hk => hk.2) (.slice Ao25 t336.length co25)) (fun _ hk => hk.2) (.int .i64 t339)) (fun _ h_ => h_.1))) hb)) (zA_ (zb (zah (zar ho0 (zaj zK160)) (zo zG68))) (zA_ (zb (zq (g := gb341) (o := .cells #[.slice Ao25 t336.length co25, .int .i64 t339] 64 (0, 0)) (by (with_reducible repeat (first | refine zf ?_ _ | refine zi ?_ | refine zg ?_ _)); refine zs (cs := #[.slice Ao25 t336.length co25, .int .i64 0]) ?_ 1 _ rfl; (with_reducible repeat (first | refine zf ?_ _ | refine zi ?_ | refine zg ?_ _)); refine zs (cs := #[.slice none 0 0, .int .i64 0]) ?_ 0 _ rfl; (with_reducible repeat (first | refine zf ?_ _ | refine zi ?_ | refine zg ?_ _)); exact BK341.out) hb)) (zb (zp zG68 hb)))))); clear HO332 HO335 HO338 BK341 HB; obtain ⟨HO332, HO335, HO338, HO344, BK341, HB⟩ := n_; (try clear hb); (try clear hk); (try clear ho0)) | ((with_reducible refine gate_callee (f := 47) rfl ?_); refine goesL_ (some 38) rfl rfl Try.func47 zG101 rfl #[.slice A1 l1.length c1] rfl zG67 ?_; (with_reducible refine (laws_toWorkerS.calls k _ _ l1 t345 _ ?side1 ?side2 A14.out).mono ?_); (case side1 => exact zH61); (case side2 => exact HC1.out); rintro e w28 ⟨v346, rfl, ho0, hb⟩; refine ⟨_, rfl, ?_⟩; have n_ := zA_ (zb (zr zK225 hb)) (zA_ (zb (Kd.S_elder' zK220 (Kd.S_base ho0) hb)) (zA_ (zb (zr zK226 hb)) (zA_ (zb (zr zK227 hb)) (zA_ (zb (zbg (Kd.S_new' ho0 (Kd.S_lt zK220)) (zo zG68))) (zA_ (zb (zq (g := gb341) (o := .cells #[.slice Ao25 t336.length co25, .int .i64 t339] 64 (0, 0)) zG78 hb)) (zb (zp zG68 hb))))))); clear HO332 HO335 HO338 HO344 BK341 HB; obtain ⟨HO332, HO335, HO338, HO344, HO347, BK341, HB⟩ := n_; (try clear hb); (try clear hk); (try clear ho0); obtain ⟨Ao29, co29, eo29⟩ := zaf HO344.out; subst eo29; obtain ⟨Ao30, co30, eo30⟩ := zbj HO347.out; subst eo30) | ((with_reducible refine gate_callee (f := 29) rfl ?_); refine goesL_ (some 42) rfl rfl Try.func29 zG101 rfl #[.slice Ao29 t342.length co29, .slice Ao30 t345.length co30] rfl zG67 ?_; (with_reducible refine (impl_BestRoster.calls k _ _ t342 _ _ t345 t348 t351 t352 _ ?side1 ?side2 ?side3 ?side4 A15.out).mono ?_); (case side1 => repeat (first | exact (Kd.R_reads' HO344.out).2.2 | (with_reducible refine zt ?_ _) | (with_reducible refine zu ?_ _) | (with_reducible refine zv ?_))); (case side2 => exact (Kd.R_reads' HO344.out).2.1); (case side3 => repeat (first | exact (zao HO347.out).2.2 | (with_reducible refine zt ?_ _) | (with_reducible refine zu ?_ _) | (with_reducible refine zv ?_))); (case side4 => exact (zao HO347.out).2.1); rintro e w31 ⟨v349, rfl, ho0, hb⟩; refine ⟨_, rfl, ?_⟩; have n_ := zA_ (zb (zr zK225 hb)) (zA_ (zb (zai zK220 hb)) (zA_ (zb (zam zK226 (zak ho0) hb)) (zA_ (zb (zr zK227 hb)) (zA_ (zb (zai (by (with_reducible repeat (first | apply zac | apply zad | apply zae)); exact HO347.out) hb)) (zA_ (zb (zah (zar ho0 (zaj zK226)) (zo zG68))) (zA_ (zb (zq (g := gb341) (o := .cells #[.slice Ao25 t336.length co25, .int .i64 t339] 64 (0, 0)) zG78 hb)) (zb (zp zG68 hb)))))))); clear HO332 HO335 HO338 HO344 HO347 BK341 HB; obtain ⟨HO332, HO335, HO338, HO344, HO347, HO350, BK341, HB⟩ := n_; (try clear hb); (try clear hk); (try clear ho0)) | ((with_reducible refine gate_dst (N := 10) rfl ?_); refine box_event ?hg (N := 10) ?hd (cs := #[.slice none 0 0, .int .i64 0]) (t := 64) ?hr ?_; (case hd => rfl); (case hg => rfl); (case hr => exact zH117); intro gb353 hg w32 hbox hb; have n_ := zA_ (zb (zr zK225 hb)) (zA_ (zb (zai zK220 hb)) (zA_ (zb (zr zK226 hb)) (zA_ (zb (zr zK227 hb)) (zA_ (zb (zai (by (with_reducible repeat (first | apply zac | apply zad | apply zae)); exact HO347.out) hb)) (zA_ (zb (zr (by (with_reducible repeat (first | apply zl | apply zm | apply zn)); exact HO350.out) hb)) (zA_ (zb (zq (g := gb341) (o := .cells #[.slice Ao25 t336.length co25, .int .i64 t339] 64 (0, 0)) zG78 hb)) (zA_ (zb (zp zG68 hb)) (zA_ (zb (hbox)) (zA_ (zN1 w.heap.size hg (zo zG68)) (zA_ (zN1 w.heap.size hg (zo zG68)) (zN2 hg (zaa (g := gb341) (o := .cells #[.slice Ao25 t336.length co25, .int .i64 t339] 64 (0, 0)) zG78)))))))))))); clear HO332 HO335 HO338 HO344 HO347 HO350 BK341 HB; obtain ⟨HO332, HO335, HO338, HO344, HO347, HO350, BK341, HB, BK353, GW353, GE353, NB341_353, NB353_341⟩ := n_; clear hb hbox hg; obtain ⟨Ao33, co33, eo33⟩ := zaf HO350.out; subst eo33; have hnb34 := NB353_341.out; have hnc34 := NB341_353.out; obtain ⟨hcz35_0, hcz35_1, hfz35_0, hfz35_1⟩ := zB2 BK353.out))
 (try simp only [Act.put, List.setIfInBounds_toArray, List.set_cons_zero, List.set_cons_succ])
 go_cut [53] (fun v53 wc => ∃ (kq : Nat) (x53_15 : Bool), v53 = .bool x53_15 ∧ Aside0 (laws_FnExactBestRoster.j0 kq l0 l1 t340 t342 t345 t352 x53_15 t336 t339 t348 t351 = some r) ∧ Aside0 (kq ≤ k) ∧ Aside0 (Kd.R k139 139 wc w.heap.size (fun _ => True) (.slice Ao29 t342.length co29) t342) ∧ Aside0 (Kd.S k72 72 wc w.heap.size (fun _ => True) (.slice Ao30 t345.length co30) t345) ∧ Aside0 (Kd.R (Kd.int .i64) 3 wc w.heap.size (fun k_ => some k_ ≠ ((.slice Ao33 t348.length co33) : Value).ownBlock) (.slice Ao25 t336.length co25) t336) ∧ Aside0 (Kd.R (Kd.int .i64) 3 wc w.heap.size (fun k_ => some k_ ≠ ((.slice Ao25 t336.length co25) : Value).ownBlock) (.slice Ao33 t348.length co33) t348) ∧ Aside0 (wc.heap[gb341]? = some (.cells #[(.slice Ao25 t336.length co25), .int .i64 t339] 64 (0, 0))) ∧ Aside0 (wc.heap[gb353]? = some (.cells #[(.slice Ao33 t348.length co33), .int .i64 t351] 64 (0, 0))) ∧ Aside0 (Below w.heap.size w wc))
 case first =>
  have H := HC16.out
  clear HC16
  replace H := Option.bind_eq_some_iff.mp H
  obtain ⟨t354, A360, H⟩ := H
  replace H : (if t354 = true then (laws_FnExactBestRoster.j0 k l0 l1 t340 t342 t345 t352 (t352 != t340) t336 t339 t348 t351) else (laws_FnExactBestRoster.j0 k l0 l1 t340 t342 t345 t352 true t336 t339 t348 t351)) = some r := H
  have A36 := zb A360
  clear A360
  by_cases c37 : t354 = true
  ·subst c37
   have H1 : (laws_FnExactBestRoster.j0 k l0 l1 t340 t342 t345 t352 (t352 != t340) t336 t339 t348 t351) = some r := by rw [if_pos rfl] at H; exact H
   clear H
   have H := H1
   clear H1
   have H' := zb H
   clear H
   have hnb38 := NB353_341.out
   have hnc38 := NB341_353.out
   obtain ⟨hcz39_0, hcz39_1, hfz39_0, hfz39_1⟩ := zB2 BK353.out
   obtain ⟨hcz40_0, hcz40_1, hfz40_0, hfz40_1⟩ := zB2 BK341.out
   go_wp2_with (first | ((with_reducible refine gate_callee (f := 48) rfl ?_); refine goesL_ (some 47) rfl rfl Try.func48 zG101 rfl #[.agg #[.slice Ao33 t348.length co33, .int .i64 t351], .agg #[.slice Ao25 t336.length co25, .int .i64 t339]] rfl zG67 ?_; (with_reducible refine (laws_eqRoster.calls k _ _ t348 t351 _ _ t336 t339 true _ ?side1 ?side2 ?side3 ?side4 A36.out).mono ?_); (case side1 => exact zH9); (case side2 => exact (Kd.R_reads' HO350.out).2.1); (case side3 => exact zH10); (case side4 => exact (Kd.R_reads' HO338.out).2.1); rintro e w41 ⟨rfl, hb⟩; refine ⟨_, rfl, ?_⟩; have n_ := zA_ (zb (zr zK161 hb)) (zA_ (zb (zai zK154 hb)) (zA_ (zb (zr zK162 hb)) (zA_ (zb (zr zK163 hb)) (zA_ (zb (zai zK155 hb)) (zA_ (zb (zr zK164 hb)) (zA_ (zb (zq (g := gb341) (o := .cells #[.slice Ao25 t336.length co25, .int .i64 t339] 64 (0, 0)) zK133 hb)) (zA_ (zb (zq (g := gb353) (o := .cells #[.slice Ao33 t348.length co33, .int .i64 t351] 64 (0, 0)) zK129 hb)) (zb (zp zG66 hb))))))))); clear HO332 HO335 HO338 HO344 HO347 HO350 BK341 BK353 HB; obtain ⟨HO332, HO335, HO338, HO344, HO347, HO350, BK341, BK353, HB⟩ := n_; (try clear hb); (try clear hk)))
   go_meet
   case rel => exact ⟨_, ((t352 != t340)), zG100, H', ⟨zH118⟩, ⟨zH83⟩, ⟨zH81⟩, ⟨zH89⟩, ⟨zH90⟩, ⟨zH96⟩, ⟨zH97⟩, ⟨zH41⟩⟩
  replace c37 := Bool.eq_false_iff.mpr c37
  subst c37
  have H1 : (laws_FnExactBestRoster.j0 k l0 l1 t340 t342 t345 t352 true t336 t339 t348 t351) = some r := by rw [if_neg (show ¬ (false = true) by decide)] at H; exact H
  clear H
  have H := H1
  clear H1
  have H' := zb H
  clear H
  have hnb42 := NB353_341.out
  have hnc42 := NB341_353.out
  obtain ⟨hcz43_0, hcz43_1, hfz43_0, hfz43_1⟩ := zB2 BK353.out
  obtain ⟨hcz44_0, hcz44_1, hfz44_0, hfz44_1⟩ := zB2 BK341.out
  go_wp2_with (first | ((with_reducible refine gate_callee (f := 48) rfl ?_); refine goesL_ (some 47) rfl rfl Try.func48 zG101 rfl #[.agg #[.slice Ao33 t348.length co33, .int .i64 t351], .agg #[.slice Ao25 t336.length co25, .int .i64 t339]] rfl zG67 ?_; (with_reducible refine (laws_eqRoster.calls k _ _ t348 t351 _ _ t336 t339 false _ ?side1 ?side2 ?side3 ?side4 A36.out).mono ?_); (case side1 => exact zH9); (case side2 => exact (Kd.R_reads' HO350.out).2.1); (case side3 => exact zH10); (case side4 => exact (Kd.R_reads' HO338.out).2.1); rintro e w45 ⟨rfl, hb⟩; refine ⟨_, rfl, ?_⟩; have n_ := zA_ (zb (zr zK161 hb)) (zA_ (zb (zai zK154 hb)) (zA_ (zb (zr zK162 hb)) (zA_ (zb (zr zK163 hb)) (zA_ (zb (zai zK155 hb)) (zA_ (zb (zr zK164 hb)) (zA_ (zb (zq (g := gb341) (o := .cells #[.slice Ao25 t336.length co25, .int .i64 t339] 64 (0, 0)) zK133 hb)) (zA_ (zb (zq (g := gb353) (o := .cells #[.slice Ao33 t348.length co33, .int .i64 t351] 64 (0, 0)) zK129 hb)) (zb (zp zG66 hb))))))))); clear HO332 HO335 HO338 HO344 HO347 HO350 BK341 BK353 HB; obtain ⟨HO332, HO335, HO338, HO344, HO347, HO350, BK341, BK353, HB⟩ := n_; (try clear hb); (try clear hk)))
  go_meet
  case rel => exact ⟨_, (true), zG100, H', ⟨zH118⟩, ⟨zH83⟩, ⟨zH81⟩, ⟨zH89⟩, ⟨zH90⟩, ⟨zH96⟩, ⟨zH97⟩, ⟨zH41⟩⟩
 case rest =>
  clear HC16
  try clear c1
  try clear c4
  try clear c4b0
  try clear c7
  try clear c7b0
  try clear c37
  try clear hcz26_0
  try clear hcz26_1
  try clear hcz35_0
  try clear hcz35_1
  try clear hcz39_0
  try clear hcz39_1
  try clear hcz40_0
  try clear hcz40_1
  try clear hcz43_0
  try clear hcz43_1
  try clear hcz44_0
  try clear hcz44_1
  try clear hfz26_0
  try clear hfz26_1
  try clear hfz35_0
  try clear hfz35_1
  try clear hfz39_0
  try clear hfz39_1
  try clear hfz40_0
  try clear hfz40_1
  try clear hfz43_0
  try clear hfz43_1
  try clear hfz44_0
  try clear hfz44_1
  obtain ⟨kq, x53_15, rfl, HA, HJ15, HO_8, HO_9, HO_342000, HO_354000, BK341, BK353, HB⟩ := hcut
  cases kq with
  | zero => exact absurd HA.out (by simp [laws_FnExactBestRoster.j0])
  | succ kj15 =>
   have H := HA.out
   clear HA
   simp only [laws_FnExactBestRoster.j0] at H
   by_cases c46 : x53_15 = true
   ·subst c46
    have H1 : (some false) = some r := by rw [if_pos rfl] at H; exact H
    clear H
    have H := H1
    clear H1
    obtain rfl := Option.some.inj H
    go_wp2
    go_ret
    exact zH22
   replace c46 := Bool.eq_false_iff.mpr c46
   subst c46
   have H1 : ((laws_toShiftS.f kj15 l0).bind fun t355 => ((laws_eqShiftS.f kj15 t342 t355).bind fun t358 => (if t358 = true then ((laws_toWorkerS.f kj15 l1).bind fun t359 => ((laws_eqWorkerS.f kj15 t345 t359).bind fun t362 => (if t362 = true then ((laws_markShiftS.f kj15 t342 1).bind fun bt363 => ((laws_markWorkerS.f kj15 t345 bt363.1).bind fun t365 => (if t365 < 0 then (laws_FnExactBestRoster.j1 kj15 l0 l1 t340 true t336 t339 t348 t351) else ((laws_eqRoster.f kj15 t348 t351 t336 t339).bind fun t366 => (if t366 = true then (laws_FnExactBestRoster.j1 kj15 l0 l1 t340 (t352 != t340) t336 t339 t348 t351) else (laws_FnExactBestRoster.j1 kj15 l0 l1 t340 true t336 t339 t348 t351)))))) else (some false)))) else (some false)))) = some r := by rw [if_neg (show ¬ (false = true) by decide)] at H; exact H
   clear H
   have H := H1
   clear H1
   replace H := Option.bind_eq_some_iff.mp H
   obtain ⟨t355, A470, H⟩ := H
   replace H : ((laws_eqShiftS.f kj15 t342 t355).bind fun t358 => (if t358 = true then ((laws_toWorkerS.f kj15 l1).bind fun t359 => ((laws_eqWorkerS.f kj15 t345 t359).bind fun t362 => (if t362 = true then ((laws_markShiftS.f kj15 t342 1).bind fun bt363 => ((laws_markWorkerS.f kj15 t345 bt363.1).bind fun t365 => (if t365 < 0 then (laws_FnExactBestRoster.j1 kj15 l0 l1 t340 true t336 t339 t348 t351) else ((laws_eqRoster.f kj15 t348 t351 t336 t339).bind fun t366 => (if t366 = true then (laws_FnExactBestRoster.j1 kj15 l0 l1 t340 (t352 != t340) t336 t339 t348 t351) else (laws_FnExactBestRoster.j1 kj15 l0 l1 t340 true t336 t339 t348 t351)))))) else (some false)))) else (some false))) = some r := H
   have A47 := zb A470
   clear A470
   replace H := Option.bind_eq_some_iff.mp H
   obtain ⟨t358, A480, H⟩ := H
   replace H : (if t358 = true then ((laws_toWorkerS.f kj15 l1).bind fun t359 => ((laws_eqWorkerS.f kj15 t345 t359).bind fun t362 => (if t362 = true then ((laws_markShiftS.f kj15 t342 1).bind fun bt363 => ((laws_markWorkerS.f kj15 t345 bt363.1).bind fun t365 => (if t365 < 0 then (laws_FnExactBestRoster.j1 kj15 l0 l1 t340 true t336 t339 t348 t351) else ((laws_eqRoster.f kj15 t348 t351 t336 t339).bind fun t366 => (if t366 = true then (laws_FnExactBestRoster.j1 kj15 l0 l1 t340 (t352 != t340) t336 t339 t348 t351) else (laws_FnExactBestRoster.j1 kj15 l0 l1 t340 true t336 t339 t348 t351)))))) else (some false)))) else (some false)) = some r := H
   have A48 := zb A480
   clear A480
   by_cases c49 : t358 = true
   rotate_left
   ·replace c49 := Bool.eq_false_iff.mpr c49
    subst c49
    have H1 : (some false) = some r := by rw [if_neg (show ¬ (false = true) by decide)] at H; exact H
    clear H
    have H := H1
    clear H1
    obtain rfl := Option.some.inj H
    go_wp2_with (first | ((with_reducible refine gate_callee (f := 46) rfl ?_); refine goesL_ (some 56) rfl rfl Try.func46 zG101 rfl #[.slice A0 l0.length c0] rfl zG67 ?_; (with_reducible refine (laws_toShiftS.calls kj15 _ _ l0 t355 _ ?side1 ?side2 A47.out).mono ?_); (case side1 => exact zH62); (case side2 => exact HC0.out); rintro e w145 ⟨v356, rfl, ho0, hb⟩; refine ⟨_, rfl, ?_⟩; have n_ := zA_ (zb (zam zG89 (zak ho0) hb)) (zA_ (zb (zai zK221 hb)) (zA_ (zb (zr zG87 hb)) (zA_ (zb (zr zG88 hb)) (zA_ (zb (zah (zar ho0 (zaj zG89)) (zo zG66))) (zA_ (zb (zq (g := gb341) (o := .cells #[.slice Ao25 t336.length co25, .int .i64 t339] 64 (0, 0)) zG78 hb)) (zA_ (zb (zq (g := gb353) (o := .cells #[.slice Ao33 t348.length co33, .int .i64 t351] 64 (0, 0)) zG79 hb)) (zb (zp zG66 hb)))))))); clear HO_8 HO_9 HO_342000 HO_354000 BK341 BK353 HB; obtain ⟨HO_8, HO_9, HO_342000, HO_354000, HO357, BK341, BK353, HB⟩ := n_; (try clear hb); (try clear ho0); obtain ⟨Ao146, co146, eo146⟩ := zaf HO357.out; subst eo146) | ((with_reducible refine gate_callee (f := 49) rfl ?_); refine goesL_ (some 57) rfl rfl Try.func49 zG101 rfl #[.slice Ao29 t342.length co29, .slice Ao146 t355.length co146] rfl zG67 ?_; (with_reducible refine (laws_eqShiftS.calls kj15 _ _ t342 _ _ t355 false _ ?side1 ?side2 ?side3 ?side4 A48.out).mono ?_); (case side1 => exact zH49); (case side2 => exact (Kd.R_reads' HO_8.out).2.1); (case side3 => exact zH48); (case side4 => exact (Kd.R_reads' HO357.out).2.1); rintro e w147 ⟨rfl, hb⟩; refine ⟨_, rfl, ?_⟩; have n_ := zA_ (zb (zr zG89 hb)) (zA_ (zb (zai zK221 hb)) (zA_ (zb (zr zG87 hb)) (zA_ (zb (zr zG88 hb)) (zA_ (zb (zr zK228 hb)) (zA_ (zb (zq (g := gb341) (o := .cells #[.slice Ao25 t336.length co25, .int .i64 t339] 64 (0, 0)) zG78 hb)) (zA_ (zb (zq (g := gb353) (o := .cells #[.slice Ao33 t348.length co33, .int .i64 t351] 64 (0, 0)) zG79 hb)) (zb (zp zG66 hb)))))))); clear HO_8 HO_9 HO_342000 HO_354000 HO357 BK341 BK353 HB; obtain ⟨HO_8, HO_9, HO_342000, HO_354000, HO357, BK341, BK353, HB⟩ := n_; (try clear hb)))
    go_ret
    exact zH22

   subst c49
   have H1 : ((laws_toWorkerS.f kj15 l1).bind fun t359 => ((laws_eqWorkerS.f kj15 t345 t359).bind fun t362 => (if t362 = true then ((laws_markShiftS.f kj15 t342 1).bind fun bt363 => ((laws_markWorkerS.f kj15 t345 bt363.1).bind fun t365 => (if t365 < 0 then (laws_FnExactBestRoster.j1 kj15 l0 l1 t340 true t336 t339 t348 t351) else ((laws_eqRoster.f kj15 t348 t351 t336 t339).bind fun t366 => (if t366 = true then (laws_FnExactBestRoster.j1 kj15 l0 l1 t340 (t352 != t340) t336 t339 t348 t351) else (laws_FnExactBestRoster.j1 kj15 l0 l1 t340 true t336 t339 t348 t351)))))) else (some false)))) = some r := by rw [if_pos rfl] at H; exact H
   clear H
   have H := H1
   clear H1
   replace H := Option.bind_eq_some_iff.mp H
   obtain ⟨t359, A500, H⟩ := H
   replace H : ((laws_eqWorkerS.f kj15 t345 t359).bind fun t362 => (if t362 = true then ((laws_markShiftS.f kj15 t342 1).bind fun bt363 => ((laws_markWorkerS.f kj15 t345 bt363.1).bind fun t365 => (if t365 < 0 then (laws_FnExactBestRoster.j1 kj15 l0 l1 t340 true t336 t339 t348 t351) else ((laws_eqRoster.f kj15 t348 t351 t336 t339).bind fun t366 => (if t366 = true then (laws_FnExactBestRoster.j1 kj15 l0 l1 t340 (t352 != t340) t336 t339 t348 t351) else (laws_FnExactBestRoster.j1 kj15 l0 l1 t340 true t336 t339 t348 t351)))))) else (some false))) = some r := H
   have A50 := zb A500
   clear A500
   replace H := Option.bind_eq_some_iff.mp H
   obtain ⟨t362, A510, H⟩ := H
   replace H : (if t362 = true then ((laws_markShiftS.f kj15 t342 1).bind fun bt363 => ((laws_markWorkerS.f kj15 t345 bt363.1).bind fun t365 => (if t365 < 0 then (laws_FnExactBestRoster.j1 kj15 l0 l1 t340 true t336 t339 t348 t351) else ((laws_eqRoster.f kj15 t348 t351 t336 t339).bind fun t366 => (if t366 = true then (laws_FnExactBestRoster.j1 kj15 l0 l1 t340 (t352 != t340) t336 t339 t348 t351) else (laws_FnExactBestRoster.j1 kj15 l0 l1 t340 true t336 t339 t348 t351)))))) else (some false)) = some r := H
   have A51 := zb A510
   clear A510
   by_cases c52 : t362 = true
   rotate_left
   ·replace c52 := Bool.eq_false_iff.mpr c52
    subst c52
    have H1 : (some false) = some r := by rw [if_neg (show ¬ (false = true) by decide)] at H; exact H
    clear H
    have H := H1
    clear H1
    obtain rfl := Option.some.inj H
    go_wp2_with (first | ((with_reducible refine gate_callee (f := 46) rfl ?_); refine goesL_ (some 56) rfl rfl Try.func46 zG101 rfl #[.slice A0 l0.length c0] rfl zG67 ?_; (with_reducible refine (laws_toShiftS.calls kj15 _ _ l0 t355 _ ?side1 ?side2 A47.out).mono ?_); (case side1 => exact zH62); (case side2 => exact HC0.out); rintro e w139 ⟨v356, rfl, ho0, hb⟩; refine ⟨_, rfl, ?_⟩; have n_ := zA_ (zb (zam zG89 (zak ho0) hb)) (zA_ (zb (zai zK221 hb)) (zA_ (zb (zr zG87 hb)) (zA_ (zb (zr zG88 hb)) (zA_ (zb (zah (zar ho0 (zaj zG89)) (zo zG66))) (zA_ (zb (zq (g := gb341) (o := .cells #[.slice Ao25 t336.length co25, .int .i64 t339] 64 (0, 0)) zG78 hb)) (zA_ (zb (zq (g := gb353) (o := .cells #[.slice Ao33 t348.length co33, .int .i64 t351] 64 (0, 0)) zG79 hb)) (zb (zp zG66 hb)))))))); clear HO_8 HO_9 HO_342000 HO_354000 BK341 BK353 HB; obtain ⟨HO_8, HO_9, HO_342000, HO_354000, HO357, BK341, BK353, HB⟩ := n_; (try clear hb); (try clear ho0); obtain ⟨Ao140, co140, eo140⟩ := zaf HO357.out; subst eo140) | ((with_reducible refine gate_callee (f := 49) rfl ?_); refine goesL_ (some 57) rfl rfl Try.func49 zG101 rfl #[.slice Ao29 t342.length co29, .slice Ao140 t355.length co140] rfl zG67 ?_; (with_reducible refine (laws_eqShiftS.calls kj15 _ _ t342 _ _ t355 true _ ?side1 ?side2 ?side3 ?side4 A48.out).mono ?_); (case side1 => exact zH49); (case side2 => exact (Kd.R_reads' HO_8.out).2.1); (case side3 => exact zH48); (case side4 => exact (Kd.R_reads' HO357.out).2.1); rintro e w141 ⟨rfl, hb⟩; refine ⟨_, rfl, ?_⟩; have n_ := zA_ (zb (zr zG89 hb)) (zA_ (zb (zai zK221 hb)) (zA_ (zb (zr zG87 hb)) (zA_ (zb (zr zG88 hb)) (zA_ (zb (zr zK228 hb)) (zA_ (zb (zq (g := gb341) (o := .cells #[.slice Ao25 t336.length co25, .int .i64 t339] 64 (0, 0)) zG78 hb)) (zA_ (zb (zq (g := gb353) (o := .cells #[.slice Ao33 t348.length co33, .int .i64 t351] 64 (0, 0)) zG79 hb)) (zb (zp zG66 hb)))))))); clear HO_8 HO_9 HO_342000 HO_354000 HO357 BK341 BK353 HB; obtain ⟨HO_8, HO_9, HO_342000, HO_354000, HO357, BK341, BK353, HB⟩ := n_; (try clear hb)) | ((with_reducible refine gate_callee (f := 47) rfl ?_); refine goesL_ (some 61) rfl rfl Try.func47 zG101 rfl #[.slice A1 l1.length c1] rfl zG67 ?_; (with_reducible refine (laws_toWorkerS.calls kj15 _ _ l1 t359 _ ?side1 ?side2 A50.out).mono ?_); (case side1 => exact zH61); (case side2 => exact HC1.out); rintro e w142 ⟨v360, rfl, ho0, hb⟩; refine ⟨_, rfl, ?_⟩; have n_ := zA_ (zb (zr zG89 hb)) (zA_ (zb (Kd.S_elder' zK221 (Kd.S_base ho0) hb)) (zA_ (zb (zr zG87 hb)) (zA_ (zb (zr zG88 hb)) (zA_ (zb (zr zK228 hb)) (zA_ (zb (zbg (Kd.S_new' ho0 (Kd.S_lt zK221)) (zo zG66))) (zA_ (zb (zq (g := gb341) (o := .cells #[.slice Ao25 t336.length co25, .int .i64 t339] 64 (0, 0)) zG78 hb)) (zA_ (zb (zq (g := gb353) (o := .cells #[.slice Ao33 t348.length co33, .int .i64 t351] 64 (0, 0)) zG79 hb)) (zb (zp zG66 hb))))))))); clear HO_8 HO_9 HO_342000 HO_354000 HO357 BK341 BK353 HB; obtain ⟨HO_8, HO_9, HO_342000, HO_354000, HO357, HO361, BK341, BK353, HB⟩ := n_; (try clear hb); (try clear ho0); obtain ⟨Ao143, co143, eo143⟩ := zbj HO361.out; subst eo143) | ((with_reducible refine gate_callee (f := 50) rfl ?_); refine goesL_ (some 62) rfl rfl Try.func50 zG101 rfl #[.slice Ao30 t345.length co30, .slice Ao143 t359.length co143] rfl zG67 ?_; (with_reducible refine (laws_eqWorkerS.calls kj15 _ _ t345 _ _ t359 false _ ?side1 ?side2 ?side3 ?side4 A51.out).mono ?_); (case side1 => exact zH63); (case side2 => exact (zao HO_9.out).2.1); (case side3 => exact zH60); (case side4 => exact (zao HO361.out).2.1); rintro e w144 ⟨rfl, hb⟩; refine ⟨_, rfl, ?_⟩; have n_ := zA_ (zb (zr zG89 hb)) (zA_ (zb (zai zK221 hb)) (zA_ (zb (zr zG87 hb)) (zA_ (zb (zr zG88 hb)) (zA_ (zb (zr zK228 hb)) (zA_ (zb (zai (by (with_reducible repeat (first | apply zac | apply zad | apply zae)); exact HO361.out) hb)) (zA_ (zb (zq (g := gb341) (o := .cells #[.slice Ao25 t336.length co25, .int .i64 t339] 64 (0, 0)) zG78 hb)) (zA_ (zb (zq (g := gb353) (o := .cells #[.slice Ao33 t348.length co33, .int .i64 t351] 64 (0, 0)) zG79 hb)) (zb (zp zG66 hb))))))))); clear HO_8 HO_9 HO_342000 HO_354000 HO357 HO361 BK341 BK353 HB; obtain ⟨HO_8, HO_9, HO_342000, HO_354000, HO357, HO361, BK341, BK353, HB⟩ := n_; (try clear hb)))
    go_ret
    exact zH22
   subst c52
   have H1 : ((laws_markShiftS.f kj15 t342 1).bind fun bt363 => ((laws_markWorkerS.f kj15 t345 bt363.1).bind fun t365 => (if t365 < 0 then (laws_FnExactBestRoster.j1 kj15 l0 l1 t340 true t336 t339 t348 t351) else ((laws_eqRoster.f kj15 t348 t351 t336 t339).bind fun t366 => (if t366 = true then (laws_FnExactBestRoster.j1 kj15 l0 l1 t340 (t352 != t340) t336 t339 t348 t351) else (laws_FnExactBestRoster.j1 kj15 l0 l1 t340 true t336 t339 t348 t351)))))) = some r := by rw [if_pos rfl] at H; exact H
   clear H
   have H := H1
   clear H1
   replace H := Option.bind_eq_some_iff.mp H
   obtain ⟨⟨t363, t364⟩, A530, H⟩ := H
   replace H : ((laws_markWorkerS.f kj15 t345 t363).bind fun t365 => (if t365 < 0 then (laws_FnExactBestRoster.j1 kj15 l0 l1 t340 true t336 t339 t348 t351) else ((laws_eqRoster.f kj15 t348 t351 t336 t339).bind fun t366 => (if t366 = true then (laws_FnExactBestRoster.j1 kj15 l0 l1 t340 (t352 != t340) t336 t339 t348 t351) else (laws_FnExactBestRoster.j1 kj15 l0 l1 t340 true t336 t339 t348 t351))))) = some r := H
   have A53 := zb A530
   clear A530
   replace H := Option.bind_eq_some_iff.mp H
   obtain ⟨t365, A540, H⟩ := H
   replace H : (if t365 < 0 then (laws_FnExactBestRoster.j1 kj15 l0 l1 t340 true t336 t339 t348 t351) else ((laws_eqRoster.f kj15 t348 t351 t336 t339).bind fun t366 => (if t366 = true then (laws_FnExactBestRoster.j1 kj15 l0 l1 t340 (t352 != t340) t336 t339 t348 t351) else (laws_FnExactBestRoster.j1 kj15 l0 l1 t340 true t336 t339 t348 t351)))) = some r := H
   obtain ⟨A54, HC55⟩ := zD2 A540 H
   clear A540 H
   go_upto_region 21 with (first | ((with_reducible refine gate_callee (f := 46) rfl ?_); refine goesL_ (some 56) rfl rfl Try.func46 zG101 rfl #[.slice A0 l0.length c0] rfl zG67 ?_; (with_reducible refine (laws_toShiftS.calls kj15 _ _ l0 t355 _ ?side1 ?side2 A47.out).mono ?_); (case side1 => exact zH62); (case side2 => exact HC0.out); rintro e w56 ⟨v356, rfl, ho0, hb⟩; refine ⟨_, rfl, ?_⟩; have n_ := zA_ (zb (zam zG89 (zak ho0) hb)) (zA_ (zb (zai zK221 hb)) (zA_ (zb (zr zG87 hb)) (zA_ (zb (zr zG88 hb)) (zA_ (zb (zah (zar ho0 (zaj zG89)) (zo zG66))) (zA_ (zb (zq (g := gb341) (o := .cells #[.slice Ao25 t336.length co25, .int .i64 t339] 64 (0, 0)) zG78 hb)) (zA_ (zb (zq (g := gb353) (o := .cells #[.slice Ao33 t348.length co33, .int .i64 t351] 64 (0, 0)) zG79 hb)) (zb (zp zG66 hb)))))))); clear HO_8 HO_9 HO_342000 HO_354000 BK341 BK353 HB; obtain ⟨HO_8, HO_9, HO_342000, HO_354000, HO357, BK341, BK353, HB⟩ := n_; (try clear hb); (try clear ho0); obtain ⟨Ao57, co57, eo57⟩ := zaf HO357.out; subst eo57) | ((with_reducible refine gate_callee (f := 49) rfl ?_); refine goesL_ (some 57) rfl rfl Try.func49 zG101 rfl #[.slice Ao29 t342.length co29, .slice Ao57 t355.length co57] rfl zG67 ?_; (with_reducible refine (laws_eqShiftS.calls kj15 _ _ t342 _ _ t355 true _ ?side1 ?side2 ?side3 ?side4 A48.out).mono ?_); (case side1 => exact zH49); (case side2 => exact (Kd.R_reads' HO_8.out).2.1); (case side3 => exact zH48); (case side4 => exact (Kd.R_reads' HO357.out).2.1); rintro e w58 ⟨rfl, hb⟩; refine ⟨_, rfl, ?_⟩; have n_ := zA_ (zb (zr zG89 hb)) (zA_ (zb (zai zK221 hb)) (zA_ (zb (zr zG87 hb)) (zA_ (zb (zr zG88 hb)) (zA_ (zb (zr zK228 hb)) (zA_ (zb (zq (g := gb341) (o := .cells #[.slice Ao25 t336.length co25, .int .i64 t339] 64 (0, 0)) zG78 hb)) (zA_ (zb (zq (g := gb353) (o := .cells #[.slice Ao33 t348.length co33, .int .i64 t351] 64 (0, 0)) zG79 hb)) (zb (zp zG66 hb)))))))); clear HO_8 HO_9 HO_342000 HO_354000 HO357 BK341 BK353 HB; obtain ⟨HO_8, HO_9, HO_342000, HO_354000, HO357, BK341, BK353, HB⟩ := n_; (try clear hb)) | ((with_reducible refine gate_callee (f := 47) rfl ?_); refine goesL_ (some 61) rfl rfl Try.func47 zG101 rfl #[.slice A1 l1.length c1] rfl zG67 ?_; (with_reducible refine (laws_toWorkerS.calls kj15 _ _ l1 t359 _ ?side1 ?side2 A50.out).mono ?_); (case side1 => exact zH61); (case side2 => exact HC1.out); rintro e w59 ⟨v360, rfl, ho0, hb⟩; refine ⟨_, rfl, ?_⟩; have n_ := zA_ (zb (zr zG89 hb)) (zA_ (zb (Kd.S_elder' zK221 (Kd.S_base ho0) hb)) (zA_ (zb (zr zG87 hb)) (zA_ (zb (zr zG88 hb)) (zA_ (zb (zr zK228 hb)) (zA_ (zb (zbg (Kd.S_new' ho0 (Kd.S_lt zK221)) (zo zG66))) (zA_ (zb (zq (g := gb341) (o := .cells #[.slice Ao25 t336.length co25, .int .i64 t339] 64 (0, 0)) zG78 hb)) (zA_ (zb (zq (g := gb353) (o := .cells #[.slice Ao33 t348.length co33, .int .i64 t351] 64 (0, 0)) zG79 hb)) (zb (zp zG66 hb))))))))); clear HO_8 HO_9 HO_342000 HO_354000 HO357 BK341 BK353 HB; obtain ⟨HO_8, HO_9, HO_342000, HO_354000, HO357, HO361, BK341, BK353, HB⟩ := n_; (try clear hb); (try clear ho0); obtain ⟨Ao60, co60, eo60⟩ := zbj HO361.out; subst eo60) | ((with_reducible refine gate_callee (f := 50) rfl ?_); refine goesL_ (some 62) rfl rfl Try.func50 zG101 rfl #[.slice Ao30 t345.length co30, .slice Ao60 t359.length co60] rfl zG67 ?_; (with_reducible refine (laws_eqWorkerS.calls kj15 _ _ t345 _ _ t359 true _ ?side1 ?side2 ?side3 ?side4 A51.out).mono ?_); (case side1 => exact zH63); (case side2 => exact (zao HO_9.out).2.1); (case side3 => exact zH60); (case side4 => exact (zao HO361.out).2.1); rintro e w61 ⟨rfl, hb⟩; refine ⟨_, rfl, ?_⟩; have n_ := zA_ (zb (zr zG89 hb)) (zA_ (zb (zai zK221 hb)) (zA_ (zb (zr zG87 hb)) (zA_ (zb (zr zG88 hb)) (zA_ (zb (zr zK228 hb)) (zA_ (zb (zai (by (with_reducible repeat (first | apply zac | apply zad | apply zae)); exact HO361.out) hb)) (zA_ (zb (zq (g := gb341) (o := .cells #[.slice Ao25 t336.length co25, .int .i64 t339] 64 (0, 0)) zG78 hb)) (zA_ (zb (zq (g := gb353) (o := .cells #[.slice Ao33 t348.length co33, .int .i64 t351] 64 (0, 0)) zG79 hb)) (zb (zp zG66 hb))))))))); clear HO_8 HO_9 HO_342000 HO_354000 HO357 HO361 BK341 BK353 HB; obtain ⟨HO_8, HO_9, HO_342000, HO_354000, HO357, HO361, BK341, BK353, HB⟩ := n_; (try clear hb)) | ((with_reducible refine gate_callee (f := 51) rfl ?_); refine goesL_ (some 66) rfl rfl Try.func51 zG101 rfl #[.slice Ao29 t342.length co29, .int .i64 1] rfl zG67 ?_; (with_reducible refine (laws_markShiftS.calls kj15 (fun k_ => some k_ = (.slice Ao29 t342.length co29 : Value).ownBlock) (.slice Ao29 t342.length co29) t342 1 t363 t364 w _ ?side1 ?side2 A53.out).mono ?_); (case side1 => exact zH47); (case side2 => exact zas rfl HO_8.out); rintro e w62 ⟨rfl, hy0, hb, hkp⟩; refine ⟨_, rfl, ?_⟩; have n_ := zA_ (zb (zbc rfl hy0 (fun k_ e_ => HO_8.out.1 k_ e_))) (zA_ (zb (zau (ok' := fun k_ => some k_ ≠ (.slice Ao60 t359.length co60 : Value).ownBlock) (Kd.S_keptB ((Kd.S_apart' HO_9.out (zba HO_8.out) (by decide))) hkp (fun k_ hk_ hs_ => (hk_.2) hs_)) (fun k_ hk_ => hk_.1.1.2))) (zA_ (zb (zx (ok' := fun k_ => some k_ ≠ (.slice Ao33 t348.length co33 : Value).ownBlock) (zat ((Kd.R_apart' HO_342000.out (zba HO_8.out) (by decide))) hkp (fun k_ hk_ hs_ => (hk_.2) hs_)) (fun k_ hk_ => hk_.1.1))) (zA_ (zb (zx (ok' := fun k_ => some k_ ≠ (.slice Ao25 t336.length co25 : Value).ownBlock) (zat ((Kd.R_apart' HO_354000.out (zba HO_8.out) (by decide))) hkp (fun k_ hk_ hs_ => (hk_.2) hs_)) (fun k_ hk_ => hk_.1.1))) (zA_ (zb (zan zG78 hkp (fun hs_ => (fun e_ => (zaq HO_8.out BK341.out (by decide)) e_) hs_))) (zA_ (zb (zan zG79 hkp (fun hs_ => (fun e_ => (zaq HO_8.out BK353.out (by decide)) e_) hs_))) (zA_ (zb (zx (ok' := fun k_ => some k_ ≠ (.slice Ao29 t342.length co29 : Value).ownBlock) (zat (HO357.out) hkp (fun k_ hk_ hs_ => (hk_.2) hs_)) (fun k_ hk_ => hk_.1.2))) (zA_ (zb (zau (ok' := fun k_ => some k_ ≠ (.slice Ao30 t345.length co30 : Value).ownBlock) (Kd.S_keptB ((Kd.S_apart' HO361.out (zba HO_8.out) (by decide))) hkp (fun k_ hk_ hs_ => (hk_.2) hs_)) (fun k_ hk_ => hk_.1.1.2))) (zb (hb))))))))); clear HO_8 HO_9 HO_342000 HO_354000 BK341 BK353 HO357 HO361 HB; obtain ⟨HO_8, HO_9, HO_342000, HO_354000, BK341, BK353, HO357, HO361, HB⟩ := n_; (try clear hb); (try clear hkp); (try clear hy0)) | ((with_reducible refine gate_callee (f := 52) rfl ?_); refine goesL_ (some 69) rfl rfl Try.func52 zG101 rfl #[.slice Ao30 t345.length co30, .int .i64 t363] rfl zG67 ?_; (with_reducible refine (laws_markWorkerS.calls kj15 (fun k_ => some k_ ≠ (.slice Ao60 t359.length co60 : Value).ownBlock) (.slice Ao30 t345.length co30) t345 t363 t365 w _ ?side1 ?side2 A54.out).mono ?_); (case side1 => exact zH47); (case side2 => exact Kd.S_R (HO_9.out)); rintro e w63 ⟨rfl, hb, hkp⟩; refine ⟨_, rfl, ?_⟩; have n_ := zA_ (zb (zbc (ok := fun k_ => some k_ ≠ (.slice Ao57 t355.length co57 : Value).ownBlock) rfl (zat (zas rfl (HO_8.out)) hkp (fun k_ hk_ hs_ => hv_ne2 hs_.2 (zba (HO_8.out)) hk_ (by decide))) (fun k_ e_ => ((HO_8.out).1 k_ e_).2))) (zA_ (zb (zbc (ok := fun k_ => some k_ ≠ (.slice Ao33 t348.length co33 : Value).ownBlock) rfl (zat (zas rfl (HO_342000.out)) hkp (fun k_ hk_ hs_ => hv_ne2 hs_.2 (zba (HO_342000.out)) hk_ (by decide))) (fun k_ e_ => ((HO_342000.out).1 k_ e_)))) (zA_ (zb (zbc (ok := fun k_ => some k_ ≠ (.slice Ao25 t336.length co25 : Value).ownBlock) rfl (zat (zas rfl (HO_354000.out)) hkp (fun k_ hk_ hs_ => hv_ne2 hs_.2 (zba (HO_354000.out)) hk_ (by decide))) (fun k_ e_ => ((HO_354000.out).1 k_ e_)))) (zA_ (zb (zan zG78 hkp (fun hs_ => hv_ne hs_.2 zG78 (by decide)))) (zA_ (zb (zan zG79 hkp (fun hs_ => hv_ne hs_.2 zG79 (by decide)))) (zA_ (zb (zbc (ok := fun k_ => some k_ ≠ (.slice Ao29 t342.length co29 : Value).ownBlock) rfl (zat (zas rfl (HO357.out)) hkp (fun k_ hk_ hs_ => hv_ne2 hs_.2 (zba (HO357.out)) hk_ (by decide))) (fun k_ e_ => ((HO357.out).1 k_ e_)))) (zb (hb))))))); clear HO_8 HO_342000 HO_354000 BK341 BK353 HO357 HB HO361 HO_9; obtain ⟨HO_8, HO_342000, HO_354000, BK341, BK353, HO357, HB⟩ := n_; (try clear hb); (try clear hkp)))
   (try simp only [Act.put, List.setIfInBounds_toArray, List.set_cons_zero, List.set_cons_succ])
   go_cut [82] (fun v82 wc => ∃ (kq : Nat) (x82_54 : Bool), v82 = .bool x82_54 ∧ Aside0 (laws_FnExactBestRoster.j1 kq l0 l1 t340 x82_54 t336 t339 t348 t351 = some r) ∧ Aside0 (kq ≤ kj15) ∧ Aside0 (Kd.R (Kd.int .i64) 3 wc w.heap.size (fun k_ => some k_ ≠ ((.slice Ao33 t348.length co33) : Value).ownBlock) (.slice Ao25 t336.length co25) t336) ∧ Aside0 (Kd.R (Kd.int .i64) 3 wc w.heap.size (fun k_ => some k_ ≠ ((.slice Ao25 t336.length co25) : Value).ownBlock) (.slice Ao33 t348.length co33) t348) ∧ Aside0 (wc.heap[gb341]? = some (.cells #[(.slice Ao25 t336.length co25), .int .i64 t339] 64 (0, 0))) ∧ Aside0 (wc.heap[gb353]? = some (.cells #[(.slice Ao33 t348.length co33), .int .i64 t351] 64 (0, 0))) ∧ Aside0 (Below w.heap.size w wc))
   case first =>
    have H := HC55.out
    clear HC55
    by_cases c64 : t365 < 0
    ·rw [if_pos c64] at H
     have c64b0 := decide_eq_true c64
     clear c64
     (first | rw [c64b0] | (simp only [i64_w, i32_w]; rw [c64b0]) | skip)
     have H' := zb H
     clear H
     go_wp2
     go_meet
     case rel => exact ⟨_, (true), zG100, H', ⟨by have := HJ15.out; first | omega | exact Nat.le_refl _⟩, ⟨zH106⟩, ⟨zH107⟩, ⟨zH96⟩, ⟨zH97⟩, ⟨zH41⟩⟩
    rw [if_neg c64] at H
    have c64b0 := decide_eq_false c64
    clear c64
    (first | rw [c64b0] | (simp only [i64_w, i32_w]; rw [c64b0]) | skip)
    replace H := Option.bind_eq_some_iff.mp H
    obtain ⟨t366, A650, H⟩ := H
    replace H : (if t366 = true then (laws_FnExactBestRoster.j1 kj15 l0 l1 t340 (t352 != t340) t336 t339 t348 t351) else (laws_FnExactBestRoster.j1 kj15 l0 l1 t340 true t336 t339 t348 t351)) = some r := H
    have A65 := zb A650
    clear A650
    by_cases c66 : t366 = true
    ·subst c66
     have H1 : (laws_FnExactBestRoster.j1 kj15 l0 l1 t340 (t352 != t340) t336 t339 t348 t351) = some r := by rw [if_pos rfl] at H; exact H
     clear H
     have H := H1
     clear H1
     have H' := zb H
     clear H
     have hnb67 := NB353_341.out
     have hnc67 := NB341_353.out
     obtain ⟨hcz68_0, hcz68_1, hfz68_0, hfz68_1⟩ := zB2 BK353.out
     obtain ⟨hcz69_0, hcz69_1, hfz69_0, hfz69_1⟩ := zB2 BK341.out
     go_wp2_with (first | (go_at_call 48; (with_reducible refine (laws_eqRoster.calls kj15 _ _ t348 t351 _ _ t336 t339 true _ ?side1 ?side2 ?side3 ?side4 A65.out).mono ?_); (case side1 => exact zH43); (case side2 => exact zH119); (case side3 => exact zH42); (case side4 => exact (Kd.R_reads' HO_342000.out).2.1); rintro e w70 ⟨rfl, hb⟩; have n_ := zA_ (zb (zr zG89 hb)) (zA_ (zb (zr zG87 hb)) (zA_ (zb (zr zG88 hb)) (zA_ (zb (zr zK228 hb)) (zA_ (zb (zq (g := gb341) (o := .cells #[.slice Ao25 t336.length co25, .int .i64 t339] 64 (0, 0)) zG78 hb)) (zA_ (zb (zq (g := gb353) (o := .cells #[.slice Ao33 t348.length co33, .int .i64 t351] 64 (0, 0)) zG79 hb)) (zb (zp zG66 hb))))))); clear HO_8 HO_342000 HO_354000 HO357 BK341 BK353 HB; obtain ⟨HO_8, HO_342000, HO_354000, HO357, BK341, BK353, HB⟩ := n_; (try clear hb)))
     go_meet
     case rel => exact ⟨_, ((t352 != t340)), zG100, H', ⟨by have := HJ15.out; first | omega | exact Nat.le_refl _⟩, ⟨zH106⟩, ⟨zH107⟩, ⟨zH96⟩, ⟨zH97⟩, ⟨zH41⟩⟩
    replace c66 := Bool.eq_false_iff.mpr c66
    subst c66
    have H1 : (laws_FnExactBestRoster.j1 kj15 l0 l1 t340 true t336 t339 t348 t351) = some r := by rw [if_neg (show ¬ (false = true) by decide)] at H; exact H
    clear H
    have H := H1
    clear H1
    have H' := zb H
    clear H
    have hnb71 := NB353_341.out
    have hnc71 := NB341_353.out
    obtain ⟨hcz72_0, hcz72_1, hfz72_0, hfz72_1⟩ := zB2 BK353.out
    obtain ⟨hcz73_0, hcz73_1, hfz73_0, hfz73_1⟩ := zB2 BK341.out
    go_wp2_with (first | (go_at_call 48; (with_reducible refine (laws_eqRoster.calls kj15 _ _ t348 t351 _ _ t336 t339 false _ ?side1 ?side2 ?side3 ?side4 A65.out).mono ?_); (case side1 => exact zH43); (case side2 => exact zH119); (case side3 => exact zH42); (case side4 => exact (Kd.R_reads' HO_342000.out).2.1); rintro e w74 ⟨rfl, hb⟩; have n_ := zA_ (zb (zr zG89 hb)) (zA_ (zb (zr zG87 hb)) (zA_ (zb (zr zG88 hb)) (zA_ (zb (zr zK228 hb)) (zA_ (zb (zq (g := gb341) (o := .cells #[.slice Ao25 t336.length co25, .int .i64 t339] 64 (0, 0)) zG78 hb)) (zA_ (zb (zq (g := gb353) (o := .cells #[.slice Ao33 t348.length co33, .int .i64 t351] 64 (0, 0)) zG79 hb)) (zb (zp zG66 hb))))))); clear HO_8 HO_342000 HO_354000 HO357 BK341 BK353 HB; obtain ⟨HO_8, HO_342000, HO_354000, HO357, BK341, BK353, HB⟩ := n_; (try clear hb)))
    go_meet
    case rel => exact ⟨_, (true), zG100, H', ⟨by have := HJ15.out; first | omega | exact Nat.le_refl _⟩, ⟨zH106⟩, ⟨zH107⟩, ⟨zH96⟩, ⟨zH97⟩, ⟨zH41⟩⟩
   case rest =>
    clear HC55
    try clear c1
    try clear c4
    try clear c4b0
    try clear c7
    try clear c7b0
    try clear c37
    try clear c46
    try clear c49
    try clear c52
    try clear c64
    try clear c64b0
    try clear c66
    try clear hcz26_0
    try clear hcz26_1
    try clear hcz35_0
    try clear hcz35_1
    try clear hcz39_0
    try clear hcz39_1
    try clear hcz40_0
    try clear hcz40_1
    try clear hcz43_0
    try clear hcz43_1
    try clear hcz44_0
    try clear hcz44_1
    try clear hcz68_0
    try clear hcz68_1
    try clear hcz69_0
    try clear hcz69_1
    try clear hcz72_0
    try clear hcz72_1
    try clear hcz73_0
    try clear hcz73_1
    try clear hfz26_0
    try clear hfz26_1
    try clear hfz35_0
    try clear hfz35_1
    try clear hfz39_0
    try clear hfz39_1
    try clear hfz40_0
    try clear hfz40_1
    try clear hfz43_0
    try clear hfz43_1
    try clear hfz44_0
    try clear hfz44_1
    try clear hfz68_0
    try clear hfz68_1
    try clear hfz69_0
    try clear hfz69_1
    try clear hfz72_0
    try clear hfz72_1
    try clear hfz73_0
    try clear hfz73_1
    obtain ⟨kq, x82_54, rfl, HA, HJ54, HO_342000, HO_354000, BK341, BK353, HB⟩ := hcut
    cases kq with
    | zero => exact absurd HA.out (by simp [laws_FnExactBestRoster.j1])
    | succ kj54 =>
     have H := HA.out
     clear HA
     simp only [laws_FnExactBestRoster.j1] at H
     by_cases c75 : x82_54 = true
     ·subst c75
      have H1 : (some false) = some r := by rw [if_pos rfl] at H; exact H
      clear H
      have H := H1
      clear H1
      obtain rfl := Option.some.inj H
      go_wp2
      go_ret
      exact zH22
     replace c75 := Bool.eq_false_iff.mpr c75
     subst c75
     have H1 : ((laws_markRoster.f kj54 t348 t351 1).bind fun bt367 => ((laws_heldRoster.f kj54 bt367.2 t351 1).bind fun t369 => (if t369 < 0 then (some false) else (if t369 = bt367.1 then ((laws_toShiftS.f kj54 l0).bind fun t370 => ((laws_toWorkerS.f kj54 l1).bind fun t373 => ((impl_BestRoster.f kj54 t370 t373).bind fun bt376 => ((laws_eqRoster.f kj54 bt376.1 bt376.2.1 t336 t339).bind fun t382 => (if t382 = true then (laws_FnExactBestRoster.j2 kj54 bt367.1 (bt376.2.2 != t340) bt367.2 t351) else (laws_FnExactBestRoster.j2 kj54 bt367.1 true bt367.2 t351)))))) else (some false))))) = some r := by rw [if_neg (show ¬ (false = true) by decide)] at H; exact H
     clear H
     have H := H1
     clear H1
     replace H := Option.bind_eq_some_iff.mp H
     obtain ⟨⟨t367, t368⟩, A760, H⟩ := H
     replace H : ((laws_heldRoster.f kj54 t368 t351 1).bind fun t369 => (if t369 < 0 then (some false) else (if t369 = t367 then ((laws_toShiftS.f kj54 l0).bind fun t370 => ((laws_toWorkerS.f kj54 l1).bind fun t373 => ((impl_BestRoster.f kj54 t370 t373).bind fun bt376 => ((laws_eqRoster.f kj54 bt376.1 bt376.2.1 t336 t339).bind fun t382 => (if t382 = true then (laws_FnExactBestRoster.j2 kj54 t367 (bt376.2.2 != t340) t368 t351) else (laws_FnExactBestRoster.j2 kj54 t367 true t368 t351)))))) else (some false)))) = some r := H
     have A76 := zb A760
     clear A760
     replace H := Option.bind_eq_some_iff.mp H
     obtain ⟨t369, A770, H⟩ := H
     replace H : (if t369 < 0 then (some false) else (if t369 = t367 then ((laws_toShiftS.f kj54 l0).bind fun t370 => ((laws_toWorkerS.f kj54 l1).bind fun t373 => ((impl_BestRoster.f kj54 t370 t373).bind fun bt376 => ((laws_eqRoster.f kj54 bt376.1 bt376.2.1 t336 t339).bind fun t382 => (if t382 = true then (laws_FnExactBestRoster.j2 kj54 t367 (bt376.2.2 != t340) t368 t351) else (laws_FnExactBestRoster.j2 kj54 t367 true t368 t351)))))) else (some false))) = some r := H
     have A77 := zb A770
     clear A770
     by_cases c78 : t369 < 0
     ·rw [if_pos c78] at H
      have c78b0 := decide_eq_true c78
      clear c78
      obtain rfl := Option.some.inj H
      have hnb79 := NB353_341.out
      have hnc79 := NB341_353.out
      obtain ⟨hcz80_0, hcz80_1, hfz80_0, hfz80_1⟩ := zB2 BK353.out
      go_wp2_with (first | ((with_reducible refine gate_callee (f := 53) rfl ?_); refine goesL_ (some 85) rfl rfl Try.func53 zG101 rfl #[.agg #[.slice Ao33 t348.length co33, .int .i64 t351], .int .i64 1] rfl zG67 ?_; (with_reducible refine (laws_markRoster.calls kj54 (fun k_ => some k_ = (.slice Ao33 t348.length co33 : Value).ownBlock) (.slice Ao33 t348.length co33) t348 t351 1 t367 t368 w _ ?side1 ?side2 A76.out).mono ?_); (case side1 => exact zH47); (case side2 => exact zas rfl HO_354000.out); rintro e w81 ⟨rfl, hy0, hb, hkp⟩; refine ⟨_, rfl, ?_⟩; have n_ := zA_ (zb (zx (ok' := fun k_ => some k_ ≠ (.slice Ao33 t348.length co33 : Value).ownBlock) (zat (HO_342000.out) hkp (fun k_ hk_ hs_ => (hk_) hs_)) (fun k_ hk_ => hk_.1))) (zA_ (zb (zbc rfl hy0 (fun k_ e_ => HO_354000.out.1 k_ e_))) (zA_ (zb (zan zG78 hkp (fun hs_ => (fun e_ => (zaq HO_354000.out BK341.out (by decide)) e_) hs_))) (zA_ (zb (zan zG79 hkp (fun hs_ => (fun e_ => (zaq HO_354000.out BK353.out (by decide)) e_) hs_))) (zb (hb))))); clear HO_342000 HO_354000 BK341 BK353 HB; obtain ⟨HO_342000, HO_354000, BK341, BK353, HB⟩ := n_; (try clear hb); (try clear hkp); (try clear hy0); obtain ⟨hcz82_0, hcz82_1, hfz82_0, hfz82_1⟩ := zB2 BK353.out) | ((with_reducible refine gate_callee (f := 54) rfl ?_); refine goesL_ (some 88) rfl rfl Try.func54 zG101 rfl #[.agg #[.slice Ao33 t368.length co33, .int .i64 t351], .int .i64 1] rfl zK173 ?_; (with_reducible refine (laws_heldRoster.calls kj54 _ _ t368 t351 1 t369 _ ?side1 ?side2 A77.out).mono ?_); (case side1 => exact zH43); (case side2 => exact zH80); rintro e w83 ⟨rfl, hb⟩; refine ⟨_, rfl, ?_⟩; have n_ := zA_ (zb (zr zG87 hb)) (zA_ (zb (zr zG88 hb)) (zA_ (zb (zq (g := gb341) (o := .cells #[.slice Ao25 t336.length co25, .int .i64 t339] 64 (0, 0)) zG78 hb)) (zA_ (zb (zq (g := gb353) (o := .cells #[.slice Ao33 t348.length co33, .int .i64 t351] 64 (0, 0)) zG79 hb)) (zb (zp zG66 hb))))); clear HO_342000 HO_354000 BK341 BK353 HB; obtain ⟨HO_342000, HO_354000, BK341, BK353, HB⟩ := n_; (try clear hb)))
      go_ret
      exact zH22
     rw [if_neg c78] at H
     have c78b0 := decide_eq_false c78
     clear c78
     by_cases c84 : t369 = t367
     rotate_left
     ·rw [if_neg c84] at H
      have c84b0 : (t369 == t367) = false := beq_eq_false_iff_ne.mpr c84
      have c84b1 : (t369 != t367) = true := bne_iff_ne.mpr c84
      obtain rfl := Option.some.inj H
      have hnb134 := NB353_341.out
      have hnc134 := NB341_353.out
      obtain ⟨hcz135_0, hcz135_1, hfz135_0, hfz135_1⟩ := zB2 BK353.out
      go_wp2_with (first | ((with_reducible refine gate_callee (f := 53) rfl ?_); refine goesL_ (some 85) rfl rfl Try.func53 zG101 rfl #[.agg #[.slice Ao33 t348.length co33, .int .i64 t351], .int .i64 1] rfl zG67 ?_; (with_reducible refine (laws_markRoster.calls kj54 (fun k_ => some k_ = (.slice Ao33 t348.length co33 : Value).ownBlock) (.slice Ao33 t348.length co33) t348 t351 1 t367 t368 w _ ?side1 ?side2 A76.out).mono ?_); (case side1 => exact zH47); (case side2 => exact zas rfl HO_354000.out); rintro e w136 ⟨rfl, hy0, hb, hkp⟩; refine ⟨_, rfl, ?_⟩; have n_ := zA_ (zb (zx (ok' := fun k_ => some k_ ≠ (.slice Ao33 t348.length co33 : Value).ownBlock) (zat (HO_342000.out) hkp (fun k_ hk_ hs_ => (hk_) hs_)) (fun k_ hk_ => hk_.1))) (zA_ (zb (zbc rfl hy0 (fun k_ e_ => HO_354000.out.1 k_ e_))) (zA_ (zb (zan zG78 hkp (fun hs_ => (fun e_ => (zaq HO_354000.out BK341.out (by decide)) e_) hs_))) (zA_ (zb (zan zG79 hkp (fun hs_ => (fun e_ => (zaq HO_354000.out BK353.out (by decide)) e_) hs_))) (zb (hb))))); clear HO_342000 HO_354000 BK341 BK353 HB; obtain ⟨HO_342000, HO_354000, BK341, BK353, HB⟩ := n_; (try clear hb); (try clear hkp); (try clear hy0); obtain ⟨hcz137_0, hcz137_1, hfz137_0, hfz137_1⟩ := zB2 BK353.out) | ((with_reducible refine gate_callee (f := 54) rfl ?_); refine goesL_ (some 88) rfl rfl Try.func54 zG101 rfl #[.agg #[.slice Ao33 t368.length co33, .int .i64 t351], .int .i64 1] rfl zK173 ?_; (with_reducible refine (laws_heldRoster.calls kj54 _ _ t368 t351 1 t369 _ ?side1 ?side2 A77.out).mono ?_); (case side1 => exact zH43); (case side2 => exact zH80); rintro e w138 ⟨rfl, hb⟩; refine ⟨_, rfl, ?_⟩; have n_ := zA_ (zb (zr zG87 hb)) (zA_ (zb (zr zG88 hb)) (zA_ (zb (zq (g := gb341) (o := .cells #[.slice Ao25 t336.length co25, .int .i64 t339] 64 (0, 0)) zG78 hb)) (zA_ (zb (zq (g := gb353) (o := .cells #[.slice Ao33 t348.length co33, .int .i64 t351] 64 (0, 0)) zG79 hb)) (zb (zp zG66 hb))))); clear HO_342000 HO_354000 BK341 BK353 HB; obtain ⟨HO_342000, HO_354000, BK341, BK353, HB⟩ := n_; (try clear hb)))
      go_ret
      exact zH22
     rw [if_pos c84] at H
     have c84b0 : (t369 == t367) = true := beq_iff_eq.mpr c84
     have c84b1 : (t369 != t367) = false := bne_eq_false_iff_eq.mpr c84
     clear c84
     replace H := Option.bind_eq_some_iff.mp H
     obtain ⟨t370, A850, H⟩ := H
     replace H : ((laws_toWorkerS.f kj54 l1).bind fun t373 => ((impl_BestRoster.f kj54 t370 t373).bind fun bt376 => ((laws_eqRoster.f kj54 bt376.1 bt376.2.1 t336 t339).bind fun t382 => (if t382 = true then (laws_FnExactBestRoster.j2 kj54 t367 (bt376.2.2 != t340) t368 t351) else (laws_FnExactBestRoster.j2 kj54 t367 true t368 t351))))) = some r := H
     have A85 := zb A850
     clear A850
     replace H := Option.bind_eq_some_iff.mp H
     obtain ⟨t373, A860, H⟩ := H
     replace H : ((impl_BestRoster.f kj54 t370 t373).bind fun bt376 => ((laws_eqRoster.f kj54 bt376.1 bt376.2.1 t336 t339).bind fun t382 => (if t382 = true then (laws_FnExactBestRoster.j2 kj54 t367 (bt376.2.2 != t340) t368 t351) else (laws_FnExactBestRoster.j2 kj54 t367 true t368 t351)))) = some r := H
     have A86 := zb A860
     clear A860
     replace H := Option.bind_eq_some_iff.mp H
     obtain ⟨⟨t376, t379, t380⟩, A870, H⟩ := H
     replace H : ((laws_eqRoster.f kj54 t376 t379 t336 t339).bind fun t382 => (if t382 = true then (laws_FnExactBestRoster.j2 kj54 t367 (t380 != t340) t368 t351) else (laws_FnExactBestRoster.j2 kj54 t367 true t368 t351))) = some r := H
     obtain ⟨A87, HC88⟩ := zD2 A870 H
     clear A870 H
     have hnb89 := NB353_341.out
     have hnc89 := NB341_353.out
     obtain ⟨hcz90_0, hcz90_1, hfz90_0, hfz90_1⟩ := zB2 BK353.out
     go_upto_region 32 with (first | ((with_reducible refine gate_callee (f := 53) rfl ?_); refine goesL_ (some 85) rfl rfl Try.func53 zG101 rfl #[.agg #[.slice Ao33 t348.length co33, .int .i64 t351], .int .i64 1] rfl zG67 ?_; (with_reducible refine (laws_markRoster.calls kj54 (fun k_ => some k_ = (.slice Ao33 t348.length co33 : Value).ownBlock) (.slice Ao33 t348.length co33) t348 t351 1 t367 t368 w _ ?side1 ?side2 A76.out).mono ?_); (case side1 => exact zH47); (case side2 => exact zas rfl HO_354000.out); rintro e w91 ⟨rfl, hy0, hb, hkp⟩; refine ⟨_, rfl, ?_⟩; have n_ := zA_ (zb (zx (ok' := fun k_ => some k_ ≠ (.slice Ao33 t348.length co33 : Value).ownBlock) (zat (HO_342000.out) hkp (fun k_ hk_ hs_ => (hk_) hs_)) (fun k_ hk_ => hk_.1))) (zA_ (zb (zbc rfl hy0 (fun k_ e_ => HO_354000.out.1 k_ e_))) (zA_ (zb (zan zG78 hkp (fun hs_ => (fun e_ => (zaq HO_354000.out BK341.out (by decide)) e_) hs_))) (zA_ (zb (zan zG79 hkp (fun hs_ => (fun e_ => (zaq HO_354000.out BK353.out (by decide)) e_) hs_))) (zb (hb))))); clear HO_342000 HO_354000 BK341 BK353 HB; obtain ⟨HO_342000, HO_354000, BK341, BK353, HB⟩ := n_; (try clear hb); (try clear hkp); (try clear hy0); obtain ⟨hcz92_0, hcz92_1, hfz92_0, hfz92_1⟩ := zB2 BK353.out) | ((with_reducible refine gate_callee (f := 54) rfl ?_); refine goesL_ (some 88) rfl rfl Try.func54 zG101 rfl #[.agg #[.slice Ao33 t368.length co33, .int .i64 t351], .int .i64 1] rfl zK173 ?_; (with_reducible refine (laws_heldRoster.calls kj54 _ _ t368 t351 1 t369 _ ?side1 ?side2 A77.out).mono ?_); (case side1 => exact zH43); (case side2 => exact zH80); rintro e w93 ⟨rfl, hb⟩; refine ⟨_, rfl, ?_⟩; have n_ := zA_ (zb (zr zG87 hb)) (zA_ (zb (zr zG88 hb)) (zA_ (zb (zq (g := gb341) (o := .cells #[.slice Ao25 t336.length co25, .int .i64 t339] 64 (0, 0)) zG78 hb)) (zA_ (zb (zq (g := gb353) (o := .cells #[.slice Ao33 t348.length co33, .int .i64 t351] 64 (0, 0)) zG79 hb)) (zb (zp zG66 hb))))); clear HO_342000 HO_354000 BK341 BK353 HB; obtain ⟨HO_342000, HO_354000, BK341, BK353, HB⟩ := n_; (try clear hb)) | ((with_reducible refine gate_callee (f := 46) rfl ?_); refine goesL_ (some 96) rfl rfl Try.func46 zG101 rfl #[.slice A0 l0.length c0] rfl zG67 ?_; (with_reducible refine (laws_toShiftS.calls kj54 _ _ l0 t370 _ ?side1 ?side2 A85.out).mono ?_); (case side1 => exact zH62); (case side2 => exact HC0.out); rintro e w94 ⟨v371, rfl, ho0, hb⟩; refine ⟨_, rfl, ?_⟩; have n_ := zA_ (zb (zr zG87 hb)) (zA_ (zb (zr zG88 hb)) (zA_ (zb (zah ho0 (zo zG66))) (zA_ (zb (zq (g := gb341) (o := .cells #[.slice Ao25 t336.length co25, .int .i64 t339] 64 (0, 0)) zG78 hb)) (zA_ (zb (zq (g := gb353) (o := .cells #[.slice Ao33 t348.length co33, .int .i64 t351] 64 (0, 0)) zG79 hb)) (zb (zp zG66 hb)))))); clear HO_342000 HO_354000 BK341 BK353 HB; obtain ⟨HO_342000, HO_354000, HO372, BK341, BK353, HB⟩ := n_; (try clear hb); (try clear ho0)) | ((with_reducible refine gate_callee (f := 47) rfl ?_); refine goesL_ (some 98) rfl rfl Try.func47 zG101 rfl #[.slice A1 l1.length c1] rfl zG67 ?_; (with_reducible refine (laws_toWorkerS.calls kj54 _ _ l1 t373 _ ?side1 ?side2 A86.out).mono ?_); (case side1 => exact zH61); (case side2 => exact HC1.out); rintro e w95 ⟨v374, rfl, ho0, hb⟩; refine ⟨_, rfl, ?_⟩; have n_ := zA_ (zb (zr zG87 hb)) (zA_ (zb (zr zG88 hb)) (zA_ (zb (zr zK229 hb)) (zA_ (zb (zbg ho0 (zo zG66))) (zA_ (zb (zq (g := gb341) (o := .cells #[.slice Ao25 t336.length co25, .int .i64 t339] 64 (0, 0)) zG78 hb)) (zA_ (zb (zq (g := gb353) (o := .cells #[.slice Ao33 t348.length co33, .int .i64 t351] 64 (0, 0)) zG79 hb)) (zb (zp zG66 hb))))))); clear HO_342000 HO_354000 HO372 BK341 BK353 HB; obtain ⟨HO_342000, HO_354000, HO372, HO375, BK341, BK353, HB⟩ := n_; (try clear hb); (try clear ho0); obtain ⟨Ao96, co96, eo96⟩ := zaf HO372.out; subst eo96; obtain ⟨Ao97, co97, eo97⟩ := zbj HO375.out; subst eo97) | ((with_reducible refine gate_callee (f := 29) rfl ?_); refine goesL_ (some 99) rfl rfl Try.func29 zG101 rfl #[.slice Ao96 t370.length co96, .slice Ao97 t373.length co97] rfl zG67 ?_; (with_reducible refine (impl_BestRoster.calls kj54 _ _ t370 _ _ t373 t376 t379 t380 _ ?side1 ?side2 ?side3 ?side4 A87.out).mono ?_); (case side1 => repeat (first | exact (Kd.R_reads' HO372.out).2.2 | (with_reducible refine zt ?_ _) | (with_reducible refine zu ?_ _) | (with_reducible refine zv ?_))); (case side2 => exact (Kd.R_reads' HO372.out).2.1); (case side3 => repeat (first | exact (zao HO375.out).2.2 | (with_reducible refine zt ?_ _) | (with_reducible refine zu ?_ _) | (with_reducible refine zv ?_))); (case side4 => exact (zao HO375.out).2.1); rintro e w98 ⟨v377, rfl, ho0, hb⟩; refine ⟨_, rfl, ?_⟩; have n_ := zA_ (zb (zam zG87 (zak ho0) hb)) (zA_ (zb (zam zG88 (zak ho0) hb)) (zA_ (zb (zr zK229 hb)) (zA_ (zb (zai (by (with_reducible repeat (first | apply zac | apply zad | apply zae)); exact HO375.out) hb)) (zA_ (zb (zah (zar (zar ho0 (zaj zG87)) (zaj zG88)) (zo zG66))) (zA_ (zb (zq (g := gb341) (o := .cells #[.slice Ao25 t336.length co25, .int .i64 t339] 64 (0, 0)) zG78 hb)) (zA_ (zb (zq (g := gb353) (o := .cells #[.slice Ao33 t348.length co33, .int .i64 t351] 64 (0, 0)) zG79 hb)) (zb (zp zG66 hb)))))))); clear HO_342000 HO_354000 HO372 HO375 BK341 BK353 HB; obtain ⟨HO_342000, HO_354000, HO372, HO375, HO378, BK341, BK353, HB⟩ := n_; (try clear hb); (try clear ho0)) | ((with_reducible refine gate_dst (N := 15) rfl ?_); refine box_event ?hg (N := 15) ?hd (cs := #[.slice none 0 0, .int .i64 0]) (t := 64) ?hr ?_; (case hd => rfl); (case hg => rfl); (case hr => exact zH117); intro gb381 hg w99 hbox hb; have n_ := zA_ (zb (zr zG87 hb)) (zA_ (zb (zr zG88 hb)) (zA_ (zb (zr zK229 hb)) (zA_ (zb (zai (by (with_reducible repeat (first | apply zac | apply zad | apply zae)); exact HO375.out) hb)) (zA_ (zb (zr (by (with_reducible repeat (first | apply zl | apply zm | apply zn)); exact HO378.out) hb)) (zA_ (zb (zq (g := gb341) (o := .cells #[.slice Ao25 t336.length co25, .int .i64 t339] 64 (0, 0)) zG78 hb)) (zA_ (zb (zq (g := gb353) (o := .cells #[.slice Ao33 t348.length co33, .int .i64 t351] 64 (0, 0)) zG79 hb)) (zA_ (zb (zp zG66 hb)) (zA_ (zb (hbox)) (zA_ (zN1 w.heap.size hg (zo zG66)) (zA_ (zN1 w.heap.size hg (zo zG66)) (zN3 hg (zaa (g := gb341) (o := .cells #[.slice Ao25 t336.length co25, .int .i64 t339] 64 (0, 0)) zG78) (zN2 hg (zaa (g := gb353) (o := .cells #[.slice Ao33 t348.length co33, .int .i64 t351] 64 (0, 0)) zG79))))))))))))); clear HO_342000 HO_354000 HO372 HO375 HO378 BK341 BK353 HB; obtain ⟨HO_342000, HO_354000, HO372, HO375, HO378, BK341, BK353, HB, BK381, GW381, GE381, NB341_381, NB381_341, NB353_381, NB381_353⟩ := n_; clear hb hbox hg; obtain ⟨Ao100, co100, eo100⟩ := zaf HO378.out; subst eo100; have hnb101 := NB381_341.out; have hnc101 := NB341_381.out; have hnb102 := NB381_353.out; have hnc102 := NB353_381.out; obtain ⟨hcz103_0, hcz103_1, hfz103_0, hfz103_1⟩ := zB2 BK381.out))
     (try simp only [Act.put, List.setIfInBounds_toArray, List.set_cons_zero, List.set_cons_succ])
     go_cut [110] (fun v110 wc => ∃ (kq : Nat) (x110_87 : Bool), v110 = .bool x110_87 ∧ Aside0 (laws_FnExactBestRoster.j2 kq t367 x110_87 t368 t351 = some r) ∧ Aside0 (kq ≤ kj54) ∧ Aside0 (Kd.R (Kd.int .i64) 3 wc w.heap.size (fun k_ => some k_ ≠ ((.slice Ao33 t348.length co33) : Value).ownBlock ∧ some k_ ≠ ((.slice Ao100 t376.length co100) : Value).ownBlock) (.slice Ao25 t336.length co25) t336) ∧ Aside0 (Kd.R (Kd.int .i64) 3 wc w.heap.size (fun k_ => some k_ ≠ ((.slice Ao25 t336.length co25) : Value).ownBlock ∧ some k_ ≠ ((.slice Ao100 t376.length co100) : Value).ownBlock) (.slice Ao33 t348.length co33) t368) ∧ Aside0 (Kd.R (Kd.int .i64) 3 wc w.heap.size (fun k_ => some k_ ≠ ((.slice Ao25 t336.length co25) : Value).ownBlock ∧ some k_ ≠ ((.slice Ao33 t348.length co33) : Value).ownBlock) (.slice Ao100 t376.length co100) t376) ∧ Aside0 (wc.heap[gb341]? = some (.cells #[(.slice Ao25 t336.length co25), .int .i64 t339] 64 (0, 0))) ∧ Aside0 (wc.heap[gb353]? = some (.cells #[(.slice Ao33 t348.length co33), .int .i64 t351] 64 (0, 0))) ∧ Aside0 (wc.heap[gb381]? = some (.cells #[(.slice Ao100 t376.length co100), .int .i64 t379] 64 (0, 0))) ∧ Aside0 (Below w.heap.size w wc))
     case first =>
      have H := HC88.out
      clear HC88
      replace H := Option.bind_eq_some_iff.mp H
      obtain ⟨t382, A1040, H⟩ := H
      replace H : (if t382 = true then (laws_FnExactBestRoster.j2 kj54 t367 (t380 != t340) t368 t351) else (laws_FnExactBestRoster.j2 kj54 t367 true t368 t351)) = some r := H
      have A104 := zb A1040
      clear A1040
      by_cases c105 : t382 = true
      ·subst c105
       have H1 : (laws_FnExactBestRoster.j2 kj54 t367 (t380 != t340) t368 t351) = some r := by rw [if_pos rfl] at H; exact H
       clear H
       have H := H1
       clear H1
       have H' := zb H
       clear H
       have hnb106 := NB381_341.out
       have hnc106 := NB341_381.out
       have hnb107 := NB381_353.out
       have hnc107 := NB353_381.out
       obtain ⟨hcz108_0, hcz108_1, hfz108_0, hfz108_1⟩ := zB2 BK381.out
       have hnb109 := NB341_353.out
       have hnc109 := NB353_341.out
       obtain ⟨hcz110_0, hcz110_1, hfz110_0, hfz110_1⟩ := zB2 BK341.out
       go_wp2_with (first | ((with_reducible refine gate_callee (f := 48) rfl ?_); refine goesL_ (some 104) rfl rfl Try.func48 zG101 rfl #[.agg #[.slice Ao100 t376.length co100, .int .i64 t379], .agg #[.slice Ao25 t336.length co25, .int .i64 t339]] rfl zG67 ?_; (with_reducible refine (laws_eqRoster.calls kj54 _ _ t376 t379 _ _ t336 t339 true _ ?side1 ?side2 ?side3 ?side4 A104.out).mono ?_); (case side1 => exact zH4); (case side2 => exact (Kd.R_reads' HO378.out).2.1); (case side3 => exact zH5); (case side4 => exact (Kd.R_reads' HO_342000.out).2.1); rintro e w111 ⟨rfl, hb⟩; refine ⟨_, rfl, ?_⟩; have n_ := zA_ (zb (zr zK156 hb)) (zA_ (zb (zr zK157 hb)) (zA_ (zb (zr zK158 hb)) (zA_ (zb (zai zK153 hb)) (zA_ (zb (zr zK159 hb)) (zA_ (zb (zq (g := gb341) (o := .cells #[.slice Ao25 t336.length co25, .int .i64 t339] 64 (0, 0)) zK134 hb)) (zA_ (zb (zq (g := gb353) (o := .cells #[.slice Ao33 t348.length co33, .int .i64 t351] 64 (0, 0)) zK135 hb)) (zA_ (zb (zq (g := gb381) (o := .cells #[.slice Ao100 t376.length co100, .int .i64 t379] 64 (0, 0)) zK128 hb)) (zb (zp zK176 hb))))))))); clear HO_342000 HO_354000 HO372 HO375 HO378 BK341 BK353 BK381 HB; obtain ⟨HO_342000, HO_354000, HO372, HO375, HO378, BK341, BK353, BK381, HB⟩ := n_; (try clear hb); (try clear hk)))
       go_meet
       case rel => exact ⟨_, ((t380 != t340)), zG100, H', ⟨by have := HJ15.out; have := HJ54.out; first | omega | exact Nat.le_refl _⟩, ⟨zH106⟩, ⟨zH107⟩, ⟨zH79⟩, ⟨zH96⟩, ⟨zH97⟩, ⟨by (with_reducible repeat (first | refine zf ?_ _ | refine zi ?_ | refine zg ?_ _)); exact BK381.out⟩, ⟨zH36⟩⟩
      replace c105 := Bool.eq_false_iff.mpr c105
      subst c105
      have H1 : (laws_FnExactBestRoster.j2 kj54 t367 true t368 t351) = some r := by rw [if_neg (show ¬ (false = true) by decide)] at H; exact H
      clear H
      have H := H1
      clear H1
      have H' := zb H
      clear H
      have hnb112 := NB381_341.out
      have hnc112 := NB341_381.out
      have hnb113 := NB381_353.out
      have hnc113 := NB353_381.out
      obtain ⟨hcz114_0, hcz114_1, hfz114_0, hfz114_1⟩ := zB2 BK381.out
      have hnb115 := NB341_353.out
      have hnc115 := NB353_341.out
      obtain ⟨hcz116_0, hcz116_1, hfz116_0, hfz116_1⟩ := zB2 BK341.out
      go_wp2_with (first | ((with_reducible refine gate_callee (f := 48) rfl ?_); refine goesL_ (some 104) rfl rfl Try.func48 zG101 rfl #[.agg #[.slice Ao100 t376.length co100, .int .i64 t379], .agg #[.slice Ao25 t336.length co25, .int .i64 t339]] rfl zG67 ?_; (with_reducible refine (laws_eqRoster.calls kj54 _ _ t376 t379 _ _ t336 t339 false _ ?side1 ?side2 ?side3 ?side4 A104.out).mono ?_); (case side1 => exact zH4); (case side2 => exact (Kd.R_reads' HO378.out).2.1); (case side3 => exact zH5); (case side4 => exact (Kd.R_reads' HO_342000.out).2.1); rintro e w117 ⟨rfl, hb⟩; refine ⟨_, rfl, ?_⟩; have n_ := zA_ (zb (zr zK156 hb)) (zA_ (zb (zr zK157 hb)) (zA_ (zb (zr zK158 hb)) (zA_ (zb (zai zK153 hb)) (zA_ (zb (zr zK159 hb)) (zA_ (zb (zq (g := gb341) (o := .cells #[.slice Ao25 t336.length co25, .int .i64 t339] 64 (0, 0)) zK134 hb)) (zA_ (zb (zq (g := gb353) (o := .cells #[.slice Ao33 t348.length co33, .int .i64 t351] 64 (0, 0)) zK135 hb)) (zA_ (zb (zq (g := gb381) (o := .cells #[.slice Ao100 t376.length co100, .int .i64 t379] 64 (0, 0)) zK128 hb)) (zb (zp zK176 hb))))))))); clear HO_342000 HO_354000 HO372 HO375 HO378 BK341 BK353 BK381 HB; obtain ⟨HO_342000, HO_354000, HO372, HO375, HO378, BK341, BK353, BK381, HB⟩ := n_; (try clear hb); (try clear hk)))
      go_meet
      case rel => exact ⟨_, (true), zG100, H', ⟨by have := HJ15.out; have := HJ54.out; first | omega | exact Nat.le_refl _⟩, ⟨zH106⟩, ⟨zH107⟩, ⟨zH79⟩, ⟨zH96⟩, ⟨zH97⟩, ⟨by (with_reducible repeat (first | refine zf ?_ _ | refine zi ?_ | refine zg ?_ _)); exact BK381.out⟩, ⟨zH36⟩⟩
     case rest =>
      clear HC88
      try clear c1
      try clear c4
      try clear c4b0
      try clear c7
      try clear c7b0
      try clear c37
      try clear c46
      try clear c49
      try clear c52
      try clear c64
      try clear c64b0
      try clear c66
      try clear c75
      try clear c78
      try clear c78b0
      try clear c84
      try clear c84b0
      try clear c84b1
      try clear c105
      try clear hcz103_0
      try clear hcz103_1
      try clear hcz108_0
      try clear hcz108_1
      try clear hcz110_0
      try clear hcz110_1
      try clear hcz114_0
      try clear hcz114_1
      try clear hcz116_0
      try clear hcz116_1
      try clear hcz26_0
      try clear hcz26_1
      try clear hcz35_0
      try clear hcz35_1
      try clear hcz39_0
      try clear hcz39_1
      try clear hcz40_0
      try clear hcz40_1
      try clear hcz43_0
      try clear hcz43_1
      try clear hcz44_0
      try clear hcz44_1
      try clear hcz68_0
      try clear hcz68_1
      try clear hcz69_0
      try clear hcz69_1
      try clear hcz72_0
      try clear hcz72_1
      try clear hcz73_0
      try clear hcz73_1
      try clear hcz80_0
      try clear hcz80_1
      try clear hcz82_0
      try clear hcz82_1
      try clear hcz90_0
      try clear hcz90_1
      try clear hcz92_0
      try clear hcz92_1
      try clear hfz103_0
      try clear hfz103_1
      try clear hfz108_0
      try clear hfz108_1
      try clear hfz110_0
      try clear hfz110_1
      try clear hfz114_0
      try clear hfz114_1
      try clear hfz116_0
      try clear hfz116_1
      try clear hfz26_0
      try clear hfz26_1
      try clear hfz35_0
      try clear hfz35_1
      try clear hfz39_0
      try clear hfz39_1
      try clear hfz40_0
      try clear hfz40_1
      try clear hfz43_0
      try clear hfz43_1
      try clear hfz44_0
      try clear hfz44_1
      try clear hfz68_0
      try clear hfz68_1
      try clear hfz69_0
      try clear hfz69_1
      try clear hfz72_0
      try clear hfz72_1
      try clear hfz73_0
      try clear hfz73_1
      try clear hfz80_0
      try clear hfz80_1
      try clear hfz82_0
      try clear hfz82_1
      try clear hfz90_0
      try clear hfz90_1
      try clear hfz92_0
      try clear hfz92_1
      obtain ⟨kq, x110_87, rfl, HA, HJ87, HO_342000, HO_354000, HO_382000, BK341, BK353, BK381, HB⟩ := hcut
      have hl354000_87 := (Kd.R_reads' HO_354000.out).1
      rw [hl354000_87] at HO_354000
      (try simp only [hl354000_87])
      (try simp only [hl354000_87] at BK341)
      (try simp only [hl354000_87] at BK353)
      (try simp only [hl354000_87] at BK381)
      (try simp only [hl354000_87] at HO_342000)
      (try simp only [hl354000_87] at HO_382000)
      cases kq with
      | zero => exact absurd HA.out (by simp [laws_FnExactBestRoster.j2])
      | succ kj87 =>
       have H := HA.out
       clear HA
       simp only [laws_FnExactBestRoster.j2] at H
       by_cases c118 : x110_87 = true
       ·subst c118
        have H1 : (some false) = some r := by rw [if_pos rfl] at H; exact H
        clear H
        have H := H1
        clear H1
        obtain rfl := Option.some.inj H
        go_wp2
        go_ret
        exact zH17
       replace c118 := Bool.eq_false_iff.mpr c118
       subst c118
       have H1 : ((laws_heldRoster.f kj87 t368 t351 1).bind fun t383 => (if t383 < 0 then (some false) else (if t383 = t367 then (some true) else (some false)))) = some r := by rw [if_neg (show ¬ (false = true) by decide)] at H; exact H
       clear H
       have H := H1
       clear H1
       replace H := Option.bind_eq_some_iff.mp H
       obtain ⟨t383, A1190, H⟩ := H
       replace H : (if t383 < 0 then (some false) else (if t383 = t367 then (some true) else (some false))) = some r := H
       have A119 := zb A1190
       clear A1190
       by_cases c120 : t383 < 0
       ·rw [if_pos c120] at H
        have c120b0 := decide_eq_true c120
        clear c120
        obtain rfl := Option.some.inj H
        have hnb121 := NB353_341.out
        have hnc121 := NB341_353.out
        have hnb122 := NB353_381.out
        have hnc122 := NB381_353.out
        obtain ⟨hcz123_0, hcz123_1, hfz123_0, hfz123_1⟩ := zB2 BK353.out
        go_wp2_with (first | ((with_reducible refine gate_callee (f := 54) rfl ?_); refine goesL_ (some 113) rfl rfl Try.func54 zG101 rfl #[.agg #[.slice Ao33 t368.length co33, .int .i64 t351], .int .i64 1] rfl zG67 ?_; (with_reducible refine (laws_heldRoster.calls kj87 _ _ t368 t351 1 t383 _ ?side1 ?side2 A119.out).mono ?_); (case side1 => exact zH43); (case side2 => exact zH119); rintro e w124 ⟨rfl, hb⟩; refine ⟨_, rfl, ?_⟩; have n_ := zA_ (zb (zr zG87 hb)) (zA_ (zb (zr zG88 hb)) (zA_ (zb (zr zK219 hb)) (zA_ (zb (zq (g := gb341) (o := .cells #[.slice Ao25 t336.length co25, .int .i64 t339] 64 (0, 0)) zG78 hb)) (zA_ (zb (zq (g := gb353) (o := .cells #[.slice Ao33 t368.length co33, .int .i64 t351] 64 (0, 0)) zG79 hb)) (zA_ (zb (zq (g := gb381) (o := .cells #[.slice Ao100 t376.length co100, .int .i64 t379] 64 (0, 0)) zK204 hb)) (zb (zp zK176 hb))))))); clear HO_342000 HO_354000 HO_382000 BK341 BK353 BK381 HB; obtain ⟨HO_342000, HO_354000, HO_382000, BK341, BK353, BK381, HB⟩ := n_; (try clear hb)))
        go_ret
        exact zH17
       rw [if_neg c120] at H
       have c120b0 := decide_eq_false c120
       clear c120
       by_cases c125 : t383 = t367
       rotate_left
       ·rw [if_neg c125] at H
        have c125b0 : (t383 == t367) = false := beq_eq_false_iff_ne.mpr c125
        have c125b1 : (t383 != t367) = true := bne_iff_ne.mpr c125
        obtain rfl := Option.some.inj H
        have hnb130 := NB353_341.out
        have hnc130 := NB341_353.out
        have hnb131 := NB353_381.out
        have hnc131 := NB381_353.out
        obtain ⟨hcz132_0, hcz132_1, hfz132_0, hfz132_1⟩ := zB2 BK353.out
        go_wp2_with (first | ((with_reducible refine gate_callee (f := 54) rfl ?_); refine goesL_ (some 113) rfl rfl Try.func54 zG101 rfl #[.agg #[.slice Ao33 t368.length co33, .int .i64 t351], .int .i64 1] rfl zG67 ?_; (with_reducible refine (laws_heldRoster.calls kj87 _ _ t368 t351 1 t383 _ ?side1 ?side2 A119.out).mono ?_); (case side1 => exact zH43); (case side2 => exact zH119); rintro e w133 ⟨rfl, hb⟩; refine ⟨_, rfl, ?_⟩; have n_ := zA_ (zb (zr zG87 hb)) (zA_ (zb (zr zG88 hb)) (zA_ (zb (zr zK219 hb)) (zA_ (zb (zq (g := gb341) (o := .cells #[.slice Ao25 t336.length co25, .int .i64 t339] 64 (0, 0)) zG78 hb)) (zA_ (zb (zq (g := gb353) (o := .cells #[.slice Ao33 t368.length co33, .int .i64 t351] 64 (0, 0)) zG79 hb)) (zA_ (zb (zq (g := gb381) (o := .cells #[.slice Ao100 t376.length co100, .int .i64 t379] 64 (0, 0)) zK204 hb)) (zb (zp zK176 hb))))))); clear HO_342000 HO_354000 HO_382000 BK341 BK353 BK381 HB; obtain ⟨HO_342000, HO_354000, HO_382000, BK341, BK353, BK381, HB⟩ := n_; (try clear hb)))
        go_ret
        exact zH17
       rw [if_pos c125] at H
       have c125b0 : (t383 == t367) = true := beq_iff_eq.mpr c125
       have c125b1 : (t383 != t367) = false := bne_eq_false_iff_eq.mpr c125
       clear c125
       obtain rfl := Option.some.inj H
       have hnb126 := NB353_341.out
       have hnc126 := NB341_353.out
       have hnb127 := NB353_381.out
       have hnc127 := NB381_353.out
       obtain ⟨hcz128_0, hcz128_1, hfz128_0, hfz128_1⟩ := zB2 BK353.out
       go_wp2_with (first | ((with_reducible refine gate_callee (f := 54) rfl ?_); refine goesL_ (some 113) rfl rfl Try.func54 zG101 rfl #[.agg #[.slice Ao33 t368.length co33, .int .i64 t351], .int .i64 1] rfl zG67 ?_; (with_reducible refine (laws_heldRoster.calls kj87 _ _ t368 t351 1 t383 _ ?side1 ?side2 A119.out).mono ?_); (case side1 => exact zH43); (case side2 => exact zH119); rintro e w129 ⟨rfl, hb⟩; refine ⟨_, rfl, ?_⟩; have n_ := zA_ (zb (zr zG87 hb)) (zA_ (zb (zr zG88 hb)) (zA_ (zb (zr zK219 hb)) (zA_ (zb (zq (g := gb341) (o := .cells #[.slice Ao25 t336.length co25, .int .i64 t339] 64 (0, 0)) zG78 hb)) (zA_ (zb (zq (g := gb353) (o := .cells #[.slice Ao33 t368.length co33, .int .i64 t351] 64 (0, 0)) zG79 hb)) (zA_ (zb (zq (g := gb381) (o := .cells #[.slice Ao100 t376.length co100, .int .i64 t379] 64 (0, 0)) zK204 hb)) (zb (zp zK176 hb))))))); clear HO_342000 HO_354000 HO_382000 BK341 BK353 BK381 HB; obtain ⟨HO_342000, HO_354000, HO_382000, BK341, BK353, BK381, HB⟩ := n_; (try clear hb)))
       go_ret
       exact zH17
end Go.Proofs.Ytojncbpeeboooaa.U
