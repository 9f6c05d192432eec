-- squeezed
-- made by pp.py (wip/tools) out of the translation; Lean checks it
import Derived.Test.YtojncbpeeboooaaT0
import Derived.Test.YtojncbpeeboooaaT2
import Derived.Test.YtojncbpeeboooaaT5
import Derived.Test.YtojncbpeeboooaaT6
namespace Go.Proofs.Ytojncbpeeboooaa.T
open Go.RowKit Go.Proofs.YtojncbpeeboooaaW.PrintWords Go.Proofs.YtojncbpeeboooaaW.PrintLast Go.Proofs.YtojncbpeeboooaaW.PrintMore
attribute [local go_sem] max2_int min2_int max_two min_two max_three min_three max_four min_four   -- for this text's walks alone
set_option linter.unusedVariables false
set_option linter.unusedSimpArgs false


/-! ### laws_FnExactBestRoute: function 4 -/
mutual
def laws_FnExactBestRoute.j0 : Nat → List (S116) → Int → Int → List (S37) → Int → Bool → List Int → List Int → Int → Int → List Int → List Int → Int → Int → Option (Bool)
 | 0, _, _, _, _, _, _, _, _, _, _, _, _, _, _ => none
 | k + 1, x0, x1, x7, x8, x10, x44, x311000, x311001, x311002, x311003, x324000, x324001, x324002, x324003 => if x44 = true then (some false) else ((laws_toStopS.f k x0).bind fun t325 => ((laws_eqStopS.f k x8 t325).bind fun t328 => (if t328 = true then ((laws_markStopS.f k x8 1).bind fun bt329 => (if bt329.1 < 0 then (laws_FnExactBestRoute.j1 k x0 x1 x7 true x311000 x311001 x311002 x311003 x324000 x324001 x324002 x324003) else ((laws_eqRoute.f k x324000 x324001 x324002 x324003 x311000 x311001 x311002 x311003).bind fun t331 => (if t331 = true then (laws_FnExactBestRoute.j1 k x0 x1 x7 (x10 != x7) x311000 x311001 x311002 x311003 x324000 x324001 x324002 x324003) else (laws_FnExactBestRoute.j1 k x0 x1 x7 true x311000 x311001 x311002 x311003 x324000 x324001 x324002 x324003))))) else (some false))))
def laws_FnExactBestRoute.j1 : Nat → List (S116) → Int → Int → Bool → List Int → List Int → Int → Int → List Int → List Int → Int → Int → Option (Bool)
 | 0, _, _, _, _, _, _, _, _, _, _, _, _ => none
 | k + 1, x0, x1, x7, x65, x311000, x311001, x311002, x311003, x324000, x324001, x324002, x324003 => if x65 = true then (some false) else ((laws_markRoute.f k x324000 x324001 x324002 x324003 1).bind fun bt332 => ((laws_heldRoute.f k bt332.2.1 bt332.2.2 x324002 x324003 1).bind fun t335 => (if t335 < 0 then (some false) else (if t335 = bt332.1 then ((laws_toStopS.f k x0).bind fun t336 => ((impl_BestRoute.f k t336 x1).bind fun bt339 => ((laws_eqRoute.f k bt339.1 bt339.2.1 bt339.2.2.1 bt339.2.2.2.1 x311000 x311001 x311002 x311003).bind fun t349 => (if t349 = true then (laws_FnExactBestRoute.j2 k bt332.1 (bt339.2.2.2.2 != x7) bt332.2.1 bt332.2.2 x324002 x324003) else (laws_FnExactBestRoute.j2 k bt332.1 true bt332.2.1 bt332.2.2 x324002 x324003))))) else (some false)))))
def laws_FnExactBestRoute.j2 : Nat → Int → Bool → List Int → List Int → Int → Int → Option (Bool)
 | 0, _, _, _, _, _, _ => none
 | k + 1, x12, x92, x324000, x324001, x324002, x324003 => if x92 = true then (some false) else ((laws_heldRoute.f k x324000 x324001 x324002 x324003 1).bind fun t350 => (if t350 < 0 then (some false) else (if t350 = x12 then (some true) else (some false))))
end
def laws_FnExactBestRoute.f (k : Nat) (l0 : List (S116)) (a1 : Int) : Option (Bool) := (laws_szStopS.f l0 1048576).bind fun t297 => (if t297 < 0 then (some true) else ((laws_toStopS.f k l0).bind fun t298 => ((spec_BestRoute.f k t298 a1).bind fun bt301 => ((laws_toStopS.f k l0).bind fun t311 => ((impl_BestRoute.f k t311 a1).bind fun bt314 => ((laws_eqRoute.f k bt314.1 bt314.2.1 bt314.2.2.1 bt314.2.2.2.1 bt301.1 bt301.2.1 bt301.2.2.1 bt301.2.2.2.1).bind fun t324 => (if t324 = true then (laws_FnExactBestRoute.j0 k l0 a1 bt301.2.2.2.2 t311 bt314.2.2.2.2 (bt314.2.2.2.2 != bt301.2.2.2.2) bt301.1 bt301.2.1 bt301.2.2.1 bt301.2.2.2.1 bt314.1 bt314.2.1 bt314.2.2.1 bt314.2.2.2.1) else (laws_FnExactBestRoute.j0 k l0 a1 bt301.2.2.2.2 t311 bt314.2.2.2.2 true bt301.1 bt301.2.1 bt301.2.2.1 bt301.2.2.2.1 bt314.1 bt314.2.1 bt314.2.2.1 bt314.2.2.2.1))))))))
theorem laws_FnExactBestRoute.mono_l : ∀ k, (∀ y0 y1 y2 y3 y4 y5 y6 y7 y8 y9 y10 y11 y12 y13, LeO (laws_FnExactBestRoute.j0 k y0 y1 y2 y3 y4 y5 y6 y7 y8 y9 y10 y11 y12 y13) (laws_FnExactBestRoute.j0 (k + 1) y0 y1 y2 y3 y4 y5 y6 y7 y8 y9 y10 y11 y12 y13)) ∧ (∀ y0 y1 y2 y3 y4 y5 y6 y7 y8 y9 y10 y11, LeO (laws_FnExactBestRoute.j1 k y0 y1 y2 y3 y4 y5 y6 y7 y8 y9 y10 y11) (laws_FnExactBestRoute.j1 (k + 1) y0 y1 y2 y3 y4 y5 y6 y7 y8 y9 y10 y11)) ∧ (∀ y0 y1 y2 y3 y4 y5, LeO (laws_FnExactBestRoute.j2 k y0 y1 y2 y3 y4 y5) (laws_FnExactBestRoute.j2 (k + 1) y0 y1 y2 y3 y4 y5))
 | 0 => ⟨fun _ _ _ _ _ _ _ _ _ _ _ _ _ _ r h => by simp [laws_FnExactBestRoute.j0] at h, fun _ _ _ _ _ _ _ _ _ _ _ _ r h => by simp [laws_FnExactBestRoute.j1] at h, fun _ _ _ _ _ _ r h => by simp [laws_FnExactBestRoute.j2] at h⟩
 | k + 1 => by
  obtain ⟨ih0, ih1, ih2⟩ := laws_FnExactBestRoute.mono_l k
  refine ⟨?_, ?_, ?_⟩
  ·intro y0 y1 y2 y3 y4 y5 y6 y7 y8 y9 y10 y11 y12 y13
   unfold laws_FnExactBestRoute.j0
   repeat' first
   | (with_reducible exact ih0 _ _ _ _ _ _ _ _ _ _ _ _ _ _)
   | (with_reducible exact ih1 _ _ _ _ _ _ _ _ _ _ _ _)
   | (with_reducible exact ih2 _ _ _ _ _ _)
   | (with_reducible exact impl_BestRoute.mono _ _ _)
   | (with_reducible exact laws_eqRoute.mono _ _ _ _ _ _ _ _ _)
   | (with_reducible exact laws_eqStopS.mono _ _ _)
   | (with_reducible exact laws_heldRoute.mono _ _ _ _ _ _)
   | (with_reducible exact laws_markRoute.mono _ _ _ _ _ _)
   | (with_reducible exact laws_markStopS.mono _ _ _)
   | (with_reducible exact laws_toStopS.mono _ _)
   | (with_reducible exact spec_BestRoute.mono _ _ _)
   | (with_reducible exact LeO.refl _)
   | (with_reducible exact LeO.none _)
   | (with_reducible refine LeO.ite ?_ ?_)
   | (with_reducible refine LeO.bind ?_ (fun _ => ?_))
   | exact ih0 _ _ _ _ _ _ _ _ _ _ _ _ _ _
   | exact ih1 _ _ _ _ _ _ _ _ _ _ _ _
   | exact ih2 _ _ _ _ _ _
   | exact impl_BestRoute.mono _ _ _
   | exact laws_eqRoute.mono _ _ _ _ _ _ _ _ _
   | exact laws_eqStopS.mono _ _ _
   | exact laws_heldRoute.mono _ _ _ _ _ _
   | exact laws_markRoute.mono _ _ _ _ _ _
   | exact laws_markStopS.mono _ _ _
   | exact laws_toStopS.mono _ _
   | exact spec_BestRoute.mono _ _ _
   | exact LeO.none _
   | refine LeO.ite ?_ ?_
   | refine LeO.bind ?_ (fun _ => ?_)
  ·intro y0 y1 y2 y3 y4 y5 y6 y7 y8 y9 y10 y11
   unfold laws_FnExactBestRoute.j1
   repeat' first
   | (with_reducible exact ih0 _ _ _ _ _ _ _ _ _ _ _ _ _ _)
   | (with_reducible exact ih1 _ _ _ _ _ _ _ _ _ _ _ _)
   | (with_reducible exact ih2 _ _ _ _ _ _)
   | (with_reducible exact impl_BestRoute.mono _ _ _)
   | (with_reducible exact laws_eqRoute.mono _ _ _ _ _ _ _ _ _)
   | (with_reducible exact laws_eqStopS.mono _ _ _)
   | (with_reducible exact laws_heldRoute.mono _ _ _ _ _ _)
   | (with_reducible exact laws_markRoute.mono _ _ _ _ _ _)
   | (with_reducible exact laws_markStopS.mono _ _ _)
   | (with_reducible exact laws_toStopS.mono _ _)
   | (with_reducible exact spec_BestRoute.mono _ _ _)
   | (with_reducible exact LeO.refl _)
   | (with_reducible exact LeO.none _)
   | (with_reducible refine LeO.ite ?_ ?_)
   | (with_reducible refine LeO.bind ?_ (fun _ => ?_))
   | exact ih0 _ _ _ _ _ _ _ _ _ _ _ _ _ _
   | exact ih1 _ _ _ _ _ _ _ _ _ _ _ _
   | exact ih2 _ _ _ _ _ _
   | exact impl_BestRoute.mono _ _ _
   | exact laws_eqRoute.mono _ _ _ _ _ _ _ _ _
   | exact laws_eqStopS.mono _ _ _
   | exact laws_heldRoute.mono _ _ _ _ _ _
   | exact laws_markRoute.mono _ _ _ _ _ _
   | exact laws_markStopS.mono _ _ _
   | exact laws_toStopS.mono _ _
   | exact spec_BestRoute.mono _ _ _
   | exact LeO.none _
   | refine LeO.ite ?_ ?_
   | refine LeO.bind ?_ (fun _ => ?_)
  ·intro y0 y1 y2 y3 y4 y5
   unfold laws_FnExactBestRoute.j2
   repeat' first
   | (with_reducible exact ih0 _ _ _ _ _ _ _ _ _ _ _ _ _ _)
   | (with_reducible exact ih1 _ _ _ _ _ _ _ _ _ _ _ _)
   | (with_reducible exact ih2 _ _ _ _ _ _)
   | (with_reducible exact impl_BestRoute.mono _ _ _)
   | (with_reducible exact laws_eqRoute.mono _ _ _ _ _ _ _ _ _)
   | (with_reducible exact laws_eqStopS.mono _ _ _)
   | (with_reducible exact laws_heldRoute.mono _ _ _ _ _ _)
   | (with_reducible exact laws_markRoute.mono _ _ _ _ _ _)
   | (with_reducible exact laws_markStopS.mono _ _ _)
   | (with_reducible exact laws_toStopS.mono _ _)
   | (with_reducible exact spec_BestRoute.mono _ _ _)
   | (with_reducible exact LeO.refl _)
   | (with_reducible exact LeO.none _)
   | (with_reducible refine LeO.ite ?_ ?_)
   | (with_reducible refine LeO.bind ?_ (fun _ => ?_))
   | exact ih0 _ _ _ _ _ _ _ _ _ _ _ _ _ _
   | exact ih1 _ _ _ _ _ _ _ _ _ _ _ _
   | exact ih2 _ _ _ _ _ _
   | exact impl_BestRoute.mono _ _ _
   | exact laws_eqRoute.mono _ _ _ _ _ _ _ _ _
   | exact laws_eqStopS.mono _ _ _
   | exact laws_heldRoute.mono _ _ _ _ _ _
   | exact laws_markRoute.mono _ _ _ _ _ _
   | exact laws_markStopS.mono _ _ _
   | exact laws_toStopS.mono _ _
   | exact spec_BestRoute.mono _ _ _
   | exact LeO.none _
   | refine LeO.ite ?_ ?_
   | refine LeO.bind ?_ (fun _ => ?_)
theorem laws_FnExactBestRoute.mono : ∀ a0 a1 k, LeO (laws_FnExactBestRoute.f k a0 a1) (laws_FnExactBestRoute.f (k + 1) a0 a1) := by
 intro a0 a1 k
 obtain ⟨ih0, ih1, ih2⟩ := laws_FnExactBestRoute.mono_l k
 unfold laws_FnExactBestRoute.f
 repeat' first
   | (with_reducible exact ih0 _ _ _ _ _ _ _ _ _ _ _ _ _ _)
   | (with_reducible exact ih1 _ _ _ _ _ _ _ _ _ _ _ _)
   | (with_reducible exact ih2 _ _ _ _ _ _)
   | (with_reducible exact impl_BestRoute.mono _ _ _)
   | (with_reducible exact laws_eqRoute.mono _ _ _ _ _ _ _ _ _)
   | (with_reducible exact laws_eqStopS.mono _ _ _)
   | (with_reducible exact laws_heldRoute.mono _ _ _ _ _ _)
   | (with_reducible exact laws_markRoute.mono _ _ _ _ _ _)
   | (with_reducible exact laws_markStopS.mono _ _ _)
   | (with_reducible exact laws_toStopS.mono _ _)
   | (with_reducible exact spec_BestRoute.mono _ _ _)
   | (with_reducible exact LeO.refl _)
   | (with_reducible exact LeO.none _)
   | (with_reducible refine LeO.ite ?_ ?_)
   | (with_reducible refine LeO.bind ?_ (fun _ => ?_))
   | exact ih0 _ _ _ _ _ _ _ _ _ _ _ _ _ _
   | exact ih1 _ _ _ _ _ _ _ _ _ _ _ _
   | exact ih2 _ _ _ _ _ _
   | exact impl_BestRoute.mono _ _ _
   | exact laws_eqRoute.mono _ _ _ _ _ _ _ _ _
   | exact laws_eqStopS.mono _ _ _
   | exact laws_heldRoute.mono _ _ _ _ _ _
   | exact laws_markRoute.mono _ _ _ _ _ _
   | exact laws_markStopS.mono _ _ _
   | exact laws_toStopS.mono _ _
   | exact spec_BestRoute.mono _ _ _
   | exact LeO.none _
   | refine LeO.ite ?_ ?_
   | refine LeO.bind ?_ (fun _ => ?_)
set_option maxHeartbeats 8000000 in
set_option maxRecDepth 100000 in
theorem laws_FnExactBestRoute.calls (k : Nat) (A0 : Option Addr) (c0 : Nat) (l0 : List (S116)) (a1 : Int) (r : Bool) (w : World) (hr0 : Kd.C k116 w A0 l0.length l0) (hc0 : l0.length ≤ c0) (h : laws_FnExactBestRoute.f k l0 a1 = some r) :
  Calls Try.prog 4 #[.slice A0 l0.length c0, .int .i64 a1] w fun e w' => e = .returned (.bool r) ∧ Below w.heap.size w w' := by
 have hu28 := Try.underlying28
 have HR0 := za hr0
 have HC0 := za hc0
 clear hr0 hc0
 have HB := za (Below.refl w.heap.size w)
 have H : ((laws_szStopS.f l0 1048576).bind fun t297 => (if t297 < 0 then (some true) else ((laws_toStopS.f k l0).bind fun t298 => ((spec_BestRoute.f k t298 a1).bind fun bt301 => ((laws_toStopS.f k l0).bind fun t311 => ((impl_BestRoute.f k t311 a1).bind fun bt314 => ((laws_eqRoute.f k bt314.1 bt314.2.1 bt314.2.2.1 bt314.2.2.2.1 bt301.1 bt301.2.1 bt301.2.2.1 bt301.2.2.2.1).bind fun t324 => (if t324 = true then (laws_FnExactBestRoute.j0 k l0 a1 bt301.2.2.2.2 t311 bt314.2.2.2.2 (bt314.2.2.2.2 != bt301.2.2.2.2) bt301.1 bt301.2.1 bt301.2.2.1 bt301.2.2.2.1 bt314.1 bt314.2.1 bt314.2.2.1 bt314.2.2.2.1) else (laws_FnExactBestRoute.j0 k l0 a1 bt301.2.2.2.2 t311 bt314.2.2.2.2 true bt301.1 bt301.2.1 bt301.2.2.1 bt301.2.2.2.1 bt314.1 bt314.2.1 bt314.2.2.1 bt314.2.2.2.1))))))))) = some r := h
 clear h
 replace H := Option.bind_eq_some_iff.mp H
 obtain ⟨t297, A30, H⟩ := H
 replace H : (if t297 < 0 then (some true) else ((laws_toStopS.f k l0).bind fun t298 => ((spec_BestRoute.f k t298 a1).bind fun bt301 => ((laws_toStopS.f k l0).bind fun t311 => ((impl_BestRoute.f k t311 a1).bind fun bt314 => ((laws_eqRoute.f k bt314.1 bt314.2.1 bt314.2.2.1 bt314.2.2.2.1 bt301.1 bt301.2.1 bt301.2.2.1 bt301.2.2.2.1).bind fun t324 => (if t324 = true then (laws_FnExactBestRoute.j0 k l0 a1 bt301.2.2.2.2 t311 bt314.2.2.2.2 (bt314.2.2.2.2 != bt301.2.2.2.2) bt301.1 bt301.2.1 bt301.2.2.1 bt301.2.2.2.1 bt314.1 bt314.2.1 bt314.2.2.1 bt314.2.2.2.1) else (laws_FnExactBestRoute.j0 k l0 a1 bt301.2.2.2.2 t311 bt314.2.2.2.2 true bt301.1 bt301.2.1 bt301.2.2.1 bt301.2.2.2.1 bt314.1 bt314.2.1 bt314.2.2.1 bt314.2.2.2.1)))))))) = some r := H
 have A3 := za A30
 clear A30
 by_cases c4 : t297 < 0
 ·rw [if_pos c4] at H
  have c4b0 := decide_eq_true c4
  clear c4
  obtain rfl := Option.some.inj H
  go_enter Try.func4, Try.ntmps4
  go_wp2_with (first | ((with_reducible refine gate_callee (f := 16) rfl ?_); refine goesL_ (some 18) rfl rfl Try.func16 zG101 rfl #[.slice A0 l0.length c0, .int .i64 1048576] rfl zG68 ?_; (with_reducible refine (laws_szStopS.calls _ _ l0 1048576 t297 _ ?side1 ?side2 A3.out).mono ?_); (case side1 => exact zH60); (case side2 => exact zH103); rintro e w' ⟨rfl, ⟨nd, rfl⟩⟩; refine ⟨_, rfl, ?_⟩))
  go_ret
  exact zH32
 rw [if_neg c4] at H
 have c4b0 := decide_eq_false c4
 clear c4
 replace H := Option.bind_eq_some_iff.mp H
 obtain ⟨t298, A50, H⟩ := H
 replace H : ((spec_BestRoute.f k t298 a1).bind fun bt301 => ((laws_toStopS.f k l0).bind fun t311 => ((impl_BestRoute.f k t311 a1).bind fun bt314 => ((laws_eqRoute.f k bt314.1 bt314.2.1 bt314.2.2.1 bt314.2.2.2.1 bt301.1 bt301.2.1 bt301.2.2.1 bt301.2.2.2.1).bind fun t324 => (if t324 = true then (laws_FnExactBestRoute.j0 k l0 a1 bt301.2.2.2.2 t311 bt314.2.2.2.2 (bt314.2.2.2.2 != bt301.2.2.2.2) bt301.1 bt301.2.1 bt301.2.2.1 bt301.2.2.2.1 bt314.1 bt314.2.1 bt314.2.2.1 bt314.2.2.2.1) else (laws_FnExactBestRoute.j0 k l0 a1 bt301.2.2.2.2 t311 bt314.2.2.2.2 true bt301.1 bt301.2.1 bt301.2.2.1 bt301.2.2.2.1 bt314.1 bt314.2.1 bt314.2.2.1 bt314.2.2.2.1)))))) = some r := H
 have A5 := za A50
 clear A50
 replace H := Option.bind_eq_some_iff.mp H
 obtain ⟨⟨t301, t304, t307, t308, t309⟩, A60, H⟩ := H
 replace H : ((laws_toStopS.f k l0).bind fun t311 => ((impl_BestRoute.f k t311 a1).bind fun bt314 => ((laws_eqRoute.f k bt314.1 bt314.2.1 bt314.2.2.1 bt314.2.2.2.1 t301 t304 t307 t308).bind fun t324 => (if t324 = true then (laws_FnExactBestRoute.j0 k l0 a1 t309 t311 bt314.2.2.2.2 (bt314.2.2.2.2 != t309) t301 t304 t307 t308 bt314.1 bt314.2.1 bt314.2.2.1 bt314.2.2.2.1) else (laws_FnExactBestRoute.j0 k l0 a1 t309 t311 bt314.2.2.2.2 true t301 t304 t307 t308 bt314.1 bt314.2.1 bt314.2.2.1 bt314.2.2.2.1))))) = some r := H
 have A6 := za A60
 clear A60
 replace H := Option.bind_eq_some_iff.mp H
 obtain ⟨t311, A70, H⟩ := H
 replace H : ((impl_BestRoute.f k t311 a1).bind fun bt314 => ((laws_eqRoute.f k bt314.1 bt314.2.1 bt314.2.2.1 bt314.2.2.2.1 t301 t304 t307 t308).bind fun t324 => (if t324 = true then (laws_FnExactBestRoute.j0 k l0 a1 t309 t311 bt314.2.2.2.2 (bt314.2.2.2.2 != t309) t301 t304 t307 t308 bt314.1 bt314.2.1 bt314.2.2.1 bt314.2.2.2.1) else (laws_FnExactBestRoute.j0 k l0 a1 t309 t311 bt314.2.2.2.2 true t301 t304 t307 t308 bt314.1 bt314.2.1 bt314.2.2.1 bt314.2.2.2.1)))) = some r := H
 have A7 := za A70
 clear A70
 replace H := Option.bind_eq_some_iff.mp H
 obtain ⟨⟨t314, t317, t320, t321, t322⟩, A80, H⟩ := H
 replace H : ((laws_eqRoute.f k t314 t317 t320 t321 t301 t304 t307 t308).bind fun t324 => (if t324 = true then (laws_FnExactBestRoute.j0 k l0 a1 t309 t311 t322 (t322 != t309) t301 t304 t307 t308 t314 t317 t320 t321) else (laws_FnExactBestRoute.j0 k l0 a1 t309 t311 t322 true t301 t304 t307 t308 t314 t317 t320 t321))) = some r := H
 have A8 := za A80
 clear A80
 have HC9 := za H
 clear H
 go_enter Try.func4, Try.ntmps4
 go_upto_region 8 with (first | ((with_reducible refine gate_callee (f := 16) rfl ?_); refine goesL_ (some 18) rfl rfl Try.func16 zG101 rfl #[.slice A0 l0.length c0, .int .i64 1048576] rfl zG68 ?_; (with_reducible refine (laws_szStopS.calls _ _ l0 1048576 t297 _ ?side1 ?side2 A3.out).mono ?_); (case side1 => exact zH60); (case side2 => exact zH103); rintro e w' ⟨rfl, ⟨nd, rfl⟩⟩; refine ⟨_, rfl, ?_⟩) | ((with_reducible refine gate_callee (f := 17) rfl ?_); refine goesL_ (some 23) rfl rfl Try.func17 zG101 rfl #[.slice A0 l0.length c0] rfl zG68 ?_; (with_reducible refine (laws_toStopS.calls k _ _ l0 t298 _ ?side1 ?side2 A5.out).mono ?_); (case side1 => exact zH60); (case side2 => exact zH103); rintro e w10 ⟨v299, rfl, ho0, hb⟩; refine ⟨_, rfl, ?_⟩; have n_ := zA_ (za (zag ho0 (zq zG76))) (za (zu zG76 hb)); clear HB; obtain ⟨HO300, HB⟩ := n_; (try clear hb); (try clear hk); (try clear ho0); obtain ⟨Ao11, co11, eo11⟩ := zaf HO300.out; subst eo11) | ((with_reducible refine gate_callee (f := 13) rfl ?_); refine goesL_ (some 25) rfl rfl Try.func13 zG101 rfl #[.slice Ao11 t298.length co11, .int .i64 a1] rfl zG68 ?_; (with_reducible refine (spec_BestRoute.calls k _ _ t298 a1 t301 t304 t307 t308 t309 _ ?side1 ?side2 A6.out).mono ?_); (case side1 => repeat (first | exact (Kd.R_reads' HO300.out).2.2 | (with_reducible refine zy ?_ _) | (with_reducible refine zz ?_ _) | (with_reducible refine zab ?_))); (case side2 => exact (Kd.R_reads' HO300.out).2.1); rintro e w12 ⟨v302, v305, rfl, ho0, ho1, hb⟩; refine ⟨_, rfl, ?_⟩; have n_ := zA_ (za (zt zK205 hb)) (zA_ (za (zag ho0 (zq zG76))) (zA_ (za (zag ho1 (zq zG76))) (za (zu zG76 hb)))); clear HO300 HB; obtain ⟨HO300, HO303, HO306, HB⟩ := n_; (try clear hb); (try clear hk); (try clear ho0); (try clear ho1)) | ((with_reducible refine gate_dst (N := 6) rfl ?_); refine box_event ?hg (N := 6) ?hd (cs := #[.slice none 0 0, .slice none 0 0, .int .i64 0, .int .i64 0]) (t := 28) ?hr ?_; (case hd => rfl); (case hg => rfl); (case hr => exact zH99); intro gb310 hg w13 hbox hb; have n_ := zA_ (za (zt zK205 hb)) (zA_ (za (zt zK206 hb)) (zA_ (za (zt zK207 hb)) (zA_ (za (zu zG76 hb)) (zA_ (za (hbox)) (zA_ (za ((by rw [hg]; exact (zq zG76) : w.heap.size ≤ gb310))) (za ((by rw [hg]; exact (zq zG76) : w.heap.size ≤ gb310)))))))); clear HO300 HO303 HO306 HB; obtain ⟨HO300, HO303, HO306, HB, BK310, GW310, GE310⟩ := n_; clear hb hbox hg; obtain ⟨Ao14, co14, eo14⟩ := zaf HO303.out; subst eo14; have hcz15_0 : w13.cell? ⟨gb310, 0, none⟩ = some (.slice none 0 0) := (zg BK310.out 0).trans rfl; have hcz15_1 : w13.cell? ⟨gb310, 1, none⟩ = some (.slice none 0 0) := (zg BK310.out 1).trans rfl; have hcz15_2 : w13.cell? ⟨gb310, 2, none⟩ = some (.int .i64 0) := (zg BK310.out 2).trans rfl; have hcz15_3 : w13.cell? ⟨gb310, 3, none⟩ = some (.int .i64 0) := (zg BK310.out 3).trans rfl; have hfz15_0 := zh BK310.out 0; have hfz15_1 := zh BK310.out 1; have hfz15_2 := zh BK310.out 2; have hfz15_3 := zh BK310.out 3; obtain ⟨Ao16, co16, eo16⟩ := zaf HO306.out; subst eo16) | ((with_reducible refine gate_callee (f := 17) rfl ?_); refine goesL_ (some 29) rfl rfl Try.func17 zG101 rfl #[.slice A0 l0.length c0] rfl zG68 ?_; (with_reducible refine (laws_toStopS.calls k _ _ l0 t311 _ ?side1 ?side2 A7.out).mono ?_); (case side1 => exact zai HR0.out zK174); (case side2 => exact zH103); rintro e w17 ⟨v312, rfl, ho0, hb⟩; refine ⟨_, rfl, ?_⟩; have n_ := zA_ (za (zba zK136 (zac ho0) hb)) (zA_ (za (zt (by (with_reducible repeat (first | apply zk | apply zl | apply zm)); exact (zp (zn (p := ⟨gb310, 3, none⟩) (zn (p := ⟨gb310, 2, none⟩) (zn (p := ⟨gb310, 1, none⟩) (zn (p := ⟨gb310, 0, none⟩) (zv HO303.out BK310.out zG102) (fun _ hk => hk.2) (.slice Ao14 t301.length co14)) (fun _ hk => hk.2) (.slice Ao16 t304.length co16)) (fun _ hk => hk.2) (.int .i64 t307)) (fun _ hk => hk.2) (.int .i64 t308)) (fun _ h_ => h_.1))) hb)) (zA_ (za (zt (by (with_reducible repeat (first | apply zk | apply zl | apply zm)); exact (zp (zn (p := ⟨gb310, 3, none⟩) (zn (p := ⟨gb310, 2, none⟩) (zn (p := ⟨gb310, 1, none⟩) (zn (p := ⟨gb310, 0, none⟩) (zv HO306.out BK310.out zG102) (fun _ hk => hk.2) (.slice Ao14 t301.length co14)) (fun _ hk => hk.2) (.slice Ao16 t304.length co16)) (fun _ hk => hk.2) (.int .i64 t307)) (fun _ hk => hk.2) (.int .i64 t308)) (fun _ h_ => h_.1))) hb)) (zA_ (za (zag (zad ho0 (zaa zK136)) (zq zK174))) (zA_ (za (zr (g := gb310) (o := .cells #[.slice Ao14 t301.length co14, .slice Ao16 t304.length co16, .int .i64 t307, .int .i64 t308] 28 (0, 0)) (by (with_reducible repeat (first | refine zc ?_ _ | refine zd ?_ | refine zb ?_ _)); refine zw (cs := #[.slice Ao14 t301.length co14, .slice Ao16 t304.length co16, .int .i64 t307, .int .i64 0]) ?_ 3 _ rfl; (with_reducible repeat (first | refine zc ?_ _ | refine zd ?_ | refine zb ?_ _)); refine zw (cs := #[.slice Ao14 t301.length co14, .slice Ao16 t304.length co16, .int .i64 0, .int .i64 0]) ?_ 2 _ rfl; (with_reducible repeat (first | refine zc ?_ _ | refine zd ?_ | refine zb ?_ _)); refine zw (cs := #[.slice Ao14 t301.length co14, .slice none 0 0, .int .i64 0, .int .i64 0]) ?_ 1 _ rfl; (with_reducible repeat (first | refine zc ?_ _ | refine zd ?_ | refine zb ?_ _)); refine zw (cs := #[.slice none 0 0, .slice none 0 0, .int .i64 0, .int .i64 0]) ?_ 0 _ rfl; (with_reducible repeat (first | refine zc ?_ _ | refine zd ?_ | refine zb ?_ _)); exact BK310.out) hb)) (za (zu zK174 hb)))))); clear HO300 HO303 HO306 BK310 HB; obtain ⟨HO300, HO303, HO306, HO313, BK310, HB⟩ := n_; (try clear hb); (try clear hk); (try clear ho0); obtain ⟨Ao18, co18, eo18⟩ := zaf HO313.out; subst eo18) | ((with_reducible refine gate_callee (f := 10) rfl ?_); refine goesL_ (some 33) rfl rfl Try.func10 zG101 rfl #[.slice Ao18 t311.length co18, .int .i64 a1] rfl zG68 ?_; (with_reducible refine (impl_BestRoute.calls k _ _ t311 a1 t314 t317 t320 t321 t322 _ ?side1 ?side2 A8.out).mono ?_); (case side1 => repeat (first | exact (Kd.R_reads' HO313.out).2.2 | (with_reducible refine zy ?_ _) | (with_reducible refine zz ?_ _) | (with_reducible refine zab ?_))); (case side2 => exact (Kd.R_reads' HO313.out).2.1); rintro e w19 ⟨v315, v318, rfl, ho0, ho1, hb⟩; refine ⟨_, rfl, ?_⟩; have n_ := zA_ (za (zt zK205 hb)) (zA_ (za (zp (zae (zae (zak zK206 hb) (zac ho0)) (zac ho1)) (fun _ h_ => h_.1))) (zA_ (za (zp (zae (zae (zak zK207 hb) (zac ho0)) (zac ho1)) (fun _ h_ => h_.1))) (zA_ (za (zt (by (with_reducible repeat (first | apply zk | apply zl | apply zm)); exact HO313.out) hb)) (zA_ (za (zag (zad (zad ho0 (zaa zK206)) (zaa zK207)) (zq zK174))) (zA_ (za (zag (zad (zad ho1 (zaa zK206)) (zaa zK207)) (zq zK174))) (zA_ (za (zr (g := gb310) (o := .cells #[.slice Ao14 t301.length co14, .slice Ao16 t304.length co16, .int .i64 t307, .int .i64 t308] 28 (0, 0)) zG80 hb)) (za (zu zK174 hb)))))))); clear HO300 HO303 HO306 HO313 BK310 HB; obtain ⟨HO300, HO303, HO306, HO313, HO316, HO319, BK310, HB⟩ := n_; (try clear hb); (try clear hk); (try clear ho0); (try clear ho1)) | ((with_reducible refine gate_dst (N := 9) rfl ?_); refine box_event ?hg (N := 9) ?hd (cs := #[.slice none 0 0, .slice none 0 0, .int .i64 0, .int .i64 0]) (t := 28) ?hr ?_; (case hd => rfl); (case hg => rfl); (case hr => exact zH99); intro gb323 hg w20 hbox hb; have n_ := zA_ (za (zt zK205 hb)) (zA_ (za (zt zK206 hb)) (zA_ (za (zt zK207 hb)) (zA_ (za (zt (by (with_reducible repeat (first | apply zk | apply zl | apply zm)); exact HO313.out) hb)) (zA_ (za (zt (by (with_reducible repeat (first | apply zk | apply zl | apply zm)); exact HO316.out) hb)) (zA_ (za (zt (by (with_reducible repeat (first | apply zk | apply zl | apply zm)); exact HO319.out) hb)) (zA_ (za (zr (g := gb310) (o := .cells #[.slice Ao14 t301.length co14, .slice Ao16 t304.length co16, .int .i64 t307, .int .i64 t308] 28 (0, 0)) zG80 hb)) (zA_ (za (zu zK174 hb)) (zA_ (za (hbox)) (zA_ (za ((by rw [hg]; exact (zq zK174) : w.heap.size ≤ gb323))) (zA_ (za ((by rw [hg]; exact (zq zK174) : w.heap.size ≤ gb323))) (zA_ (za ((by rw [hg]; exact Nat.ne_of_lt (zx (g := gb310) (o := .cells #[.slice Ao14 t301.length co14, .slice Ao16 t304.length co16, .int .i64 t307, .int .i64 t308] 28 (0, 0)) zG80) : gb310 ≠ gb323))) (za ((by rw [hg]; exact Nat.ne_of_gt (zx (g := gb310) (o := .cells #[.slice Ao14 t301.length co14, .slice Ao16 t304.length co16, .int .i64 t307, .int .i64 t308] 28 (0, 0)) zG80) : gb323 ≠ gb310)))))))))))))); clear HO300 HO303 HO306 HO313 HO316 HO319 BK310 HB; obtain ⟨HO300, HO303, HO306, HO313, HO316, HO319, BK310, HB, BK323, GW323, GE323, NB310_323, NB323_310⟩ := n_; clear hb hbox hg; obtain ⟨Ao21, co21, eo21⟩ := zaf HO316.out; subst eo21; have hnb22 := NB323_310.out; have hnc22 := NB310_323.out; have hcz23_0 : w20.cell? ⟨gb323, 0, none⟩ = some (.slice none 0 0) := (zg BK323.out 0).trans rfl; have hcz23_1 : w20.cell? ⟨gb323, 1, none⟩ = some (.slice none 0 0) := (zg BK323.out 1).trans rfl; have hcz23_2 : w20.cell? ⟨gb323, 2, none⟩ = some (.int .i64 0) := (zg BK323.out 2).trans rfl; have hcz23_3 : w20.cell? ⟨gb323, 3, none⟩ = some (.int .i64 0) := (zg BK323.out 3).trans rfl; have hfz23_0 := zh BK323.out 0; have hfz23_1 := zh BK323.out 1; have hfz23_2 := zh BK323.out 2; have hfz23_3 := zh BK323.out 3; obtain ⟨Ao24, co24, eo24⟩ := zaf HO319.out; subst eo24))
 (try simp only [Act.put, List.setIfInBounds_toArray, List.set_cons_zero, List.set_cons_succ])
 go_cut [44] (fun v44 wc => ∃ (kq : Nat) (x44_8 : Bool), v44 = .bool x44_8 ∧ Aside0 (laws_FnExactBestRoute.j0 kq l0 a1 t309 t311 t322 x44_8 t301 t304 t307 t308 t314 t317 t320 t321 = some r) ∧ Aside0 (kq ≤ k) ∧ Aside0 (Kd.R k37 37 wc w.heap.size (fun _ => True) (.slice Ao18 t311.length co18) t311) ∧ Aside0 (Kd.R (Kd.int .i64) 3 wc w.heap.size (fun k_ => some k_ ≠ ((.slice Ao16 t304.length co16) : Value).ownBlock ∧ some k_ ≠ ((.slice Ao21 t314.length co21) : Value).ownBlock ∧ some k_ ≠ ((.slice Ao24 t317.length co24) : Value).ownBlock) (.slice Ao14 t301.length co14) t301) ∧ Aside0 (Kd.R (Kd.int .i64) 3 wc w.heap.size (fun k_ => some k_ ≠ ((.slice Ao14 t301.length co14) : Value).ownBlock ∧ some k_ ≠ ((.slice Ao21 t314.length co21) : Value).ownBlock ∧ some k_ ≠ ((.slice Ao24 t317.length co24) : Value).ownBlock) (.slice Ao16 t304.length co16) t304) ∧ Aside0 (Kd.R (Kd.int .i64) 3 wc w.heap.size (fun k_ => some k_ ≠ ((.slice Ao14 t301.length co14) : Value).ownBlock ∧ some k_ ≠ ((.slice Ao16 t304.length co16) : Value).ownBlock ∧ some k_ ≠ ((.slice Ao24 t317.length co24) : Value).ownBlock) (.slice Ao21 t314.length co21) t314) ∧ Aside0 (Kd.R (Kd.int .i64) 3 wc w.heap.size (fun k_ => some k_ ≠ ((.slice Ao14 t301.length co14) : Value).ownBlock ∧ some k_ ≠ ((.slice Ao16 t304.length co16) : Value).ownBlock ∧ some k_ ≠ ((.slice Ao21 t314.length co21) : Value).ownBlock) (.slice Ao24 t317.length co24) t317) ∧ Aside0 (wc.heap[gb310]? = some (.cells #[(.slice Ao14 t301.length co14), (.slice Ao16 t304.length co16), .int .i64 t307, .int .i64 t308] 28 (0, 0))) ∧ Aside0 (wc.heap[gb323]? = some (.cells #[(.slice Ao21 t314.length co21), (.slice Ao24 t317.length co24), .int .i64 t320, .int .i64 t321] 28 (0, 0))) ∧ Aside0 (Below w.heap.size w wc))
 case first =>
  have H := HC9.out
  clear HC9
  replace H := Option.bind_eq_some_iff.mp H
  obtain ⟨t324, A250, H⟩ := H
  replace H : (if t324 = true then (laws_FnExactBestRoute.j0 k l0 a1 t309 t311 t322 (t322 != t309) t301 t304 t307 t308 t314 t317 t320 t321) else (laws_FnExactBestRoute.j0 k l0 a1 t309 t311 t322 true t301 t304 t307 t308 t314 t317 t320 t321)) = some r := H
  have A25 := za A250
  clear A250
  by_cases c26 : t324 = true
  ·subst c26
   have H1 : (laws_FnExactBestRoute.j0 k l0 a1 t309 t311 t322 (t322 != t309) t301 t304 t307 t308 t314 t317 t320 t321) = some r := by rw [if_pos rfl] at H; exact H
   clear H
   have H := H1
   clear H1
   have H' := za H
   clear H
   have hnb27 := NB323_310.out
   have hnc27 := NB310_323.out
   have hcz28_0 : w20.cell? ⟨gb323, 0, none⟩ = some (.slice none 0 0) := (zg BK323.out 0).trans rfl
   have hcz28_1 : w20.cell? ⟨gb323, 1, none⟩ = some (.slice none 0 0) := (zg BK323.out 1).trans rfl
   have hcz28_2 : w20.cell? ⟨gb323, 2, none⟩ = some (.int .i64 0) := (zg BK323.out 2).trans rfl
   have hcz28_3 : w20.cell? ⟨gb323, 3, none⟩ = some (.int .i64 0) := (zg BK323.out 3).trans rfl
   have hfz28_0 := zh BK323.out 0
   have hfz28_1 := zh BK323.out 1
   have hfz28_2 := zh BK323.out 2
   have hfz28_3 := zh BK323.out 3
   have hcz29_0 : w20.cell? ⟨gb310, 0, none⟩ = some (.slice Ao14 t301.length co14) := (zg BK310.out 0).trans rfl
   have hcz29_1 : w20.cell? ⟨gb310, 1, none⟩ = some (.slice Ao16 t304.length co16) := (zg BK310.out 1).trans rfl
   have hcz29_2 : w20.cell? ⟨gb310, 2, none⟩ = some (.int .i64 t307) := (zg BK310.out 2).trans rfl
   have hcz29_3 : w20.cell? ⟨gb310, 3, none⟩ = some (.int .i64 t308) := (zg BK310.out 3).trans rfl
   have hfz29_0 := zh BK310.out 0
   have hfz29_1 := zh BK310.out 1
   have hfz29_2 := zh BK310.out 2
   have hfz29_3 := zh BK310.out 3
   go_wp2_with (first | ((with_reducible refine gate_callee (f := 18) rfl ?_); refine goesL_ (some 38) rfl rfl Try.func18 zG101 rfl #[.agg #[.slice Ao21 t314.length co21, .slice Ao24 t317.length co24, .int .i64 t320, .int .i64 t321], .agg #[.slice Ao14 t301.length co14, .slice Ao16 t304.length co16, .int .i64 t307, .int .i64 t308]] rfl zG68 ?_; (with_reducible refine (laws_eqRoute.calls k _ _ t314 _ _ t317 t320 t321 _ _ t301 _ _ t304 t307 t308 true _ ?side1 ?side2 ?side3 ?side4 ?side5 ?side6 ?side7 ?side8 A25.out).mono ?_); (case side1 => exact zH7); (case side2 => exact (Kd.R_reads' HO316.out).2.1); (case side3 => exact zH6); (case side4 => exact (Kd.R_reads' HO319.out).2.1); (case side5 => exact zH5); (case side6 => exact (Kd.R_reads' HO303.out).2.1); (case side7 => exact zH4); (case side8 => exact (Kd.R_reads' HO306.out).2.1); rintro e w30 ⟨rfl, hb⟩; refine ⟨_, rfl, ?_⟩; have n_ := zA_ (za (zt zK137 hb)) (zA_ (za (zt zK138 hb)) (zA_ (za (zt zK139 hb)) (zA_ (za (zt zK140 hb)) (zA_ (za (zt zK141 hb)) (zA_ (za (zt zK142 hb)) (zA_ (za (zr (g := gb310) (o := .cells #[.slice Ao14 t301.length co14, .slice Ao16 t304.length co16, .int .i64 t307, .int .i64 t308] 28 (0, 0)) zK127 hb)) (zA_ (za (zr (g := gb323) (o := .cells #[.slice Ao21 t314.length co21, .slice Ao24 t317.length co24, .int .i64 t320, .int .i64 t321] 28 (0, 0)) zK106 hb)) (za (zu zG66 hb))))))))); clear HO300 HO303 HO306 HO313 HO316 HO319 BK310 BK323 HB; obtain ⟨HO300, HO303, HO306, HO313, HO316, HO319, BK310, BK323, HB⟩ := n_; (try clear hb); (try clear hk)))
   go_meet
   case rel => exact ⟨_, ((t322 != t309)), zG100, H', ⟨by first | omega | exact Nat.le_refl _⟩, ⟨zH71⟩, ⟨zH63⟩, ⟨zH64⟩, ⟨zH65⟩, ⟨zH66⟩, ⟨zH79⟩, ⟨zH80⟩, ⟨zH51⟩⟩
  replace c26 := Bool.eq_false_iff.mpr c26
  subst c26
  have H1 : (laws_FnExactBestRoute.j0 k l0 a1 t309 t311 t322 true t301 t304 t307 t308 t314 t317 t320 t321) = some r := by rw [if_neg (show ¬ (false = true) by decide)] at H; exact H
  clear H
  have H := H1
  clear H1
  have H' := za H
  clear H
  have hnb31 := NB323_310.out
  have hnc31 := NB310_323.out
  have hcz32_0 : w20.cell? ⟨gb323, 0, none⟩ = some (.slice none 0 0) := (zg BK323.out 0).trans rfl
  have hcz32_1 : w20.cell? ⟨gb323, 1, none⟩ = some (.slice none 0 0) := (zg BK323.out 1).trans rfl
  have hcz32_2 : w20.cell? ⟨gb323, 2, none⟩ = some (.int .i64 0) := (zg BK323.out 2).trans rfl
  have hcz32_3 : w20.cell? ⟨gb323, 3, none⟩ = some (.int .i64 0) := (zg BK323.out 3).trans rfl
  have hfz32_0 := zh BK323.out 0
  have hfz32_1 := zh BK323.out 1
  have hfz32_2 := zh BK323.out 2
  have hfz32_3 := zh BK323.out 3
  have hcz33_0 : w20.cell? ⟨gb310, 0, none⟩ = some (.slice Ao14 t301.length co14) := (zg BK310.out 0).trans rfl
  have hcz33_1 : w20.cell? ⟨gb310, 1, none⟩ = some (.slice Ao16 t304.length co16) := (zg BK310.out 1).trans rfl
  have hcz33_2 : w20.cell? ⟨gb310, 2, none⟩ = some (.int .i64 t307) := (zg BK310.out 2).trans rfl
  have hcz33_3 : w20.cell? ⟨gb310, 3, none⟩ = some (.int .i64 t308) := (zg BK310.out 3).trans rfl
  have hfz33_0 := zh BK310.out 0
  have hfz33_1 := zh BK310.out 1
  have hfz33_2 := zh BK310.out 2
  have hfz33_3 := zh BK310.out 3
  go_wp2_with (first | ((with_reducible refine gate_callee (f := 18) rfl ?_); refine goesL_ (some 38) rfl rfl Try.func18 zG101 rfl #[.agg #[.slice Ao21 t314.length co21, .slice Ao24 t317.length co24, .int .i64 t320, .int .i64 t321], .agg #[.slice Ao14 t301.length co14, .slice Ao16 t304.length co16, .int .i64 t307, .int .i64 t308]] rfl zG68 ?_; (with_reducible refine (laws_eqRoute.calls k _ _ t314 _ _ t317 t320 t321 _ _ t301 _ _ t304 t307 t308 false _ ?side1 ?side2 ?side3 ?side4 ?side5 ?side6 ?side7 ?side8 A25.out).mono ?_); (case side1 => exact zH7); (case side2 => exact (Kd.R_reads' HO316.out).2.1); (case side3 => exact zH6); (case side4 => exact (Kd.R_reads' HO319.out).2.1); (case side5 => exact zH5); (case side6 => exact (Kd.R_reads' HO303.out).2.1); (case side7 => exact zH4); (case side8 => exact (Kd.R_reads' HO306.out).2.1); rintro e w34 ⟨rfl, hb⟩; refine ⟨_, rfl, ?_⟩; have n_ := zA_ (za (zt zK137 hb)) (zA_ (za (zt zK138 hb)) (zA_ (za (zt zK139 hb)) (zA_ (za (zt zK140 hb)) (zA_ (za (zt zK141 hb)) (zA_ (za (zt zK142 hb)) (zA_ (za (zr (g := gb310) (o := .cells #[.slice Ao14 t301.length co14, .slice Ao16 t304.length co16, .int .i64 t307, .int .i64 t308] 28 (0, 0)) zK127 hb)) (zA_ (za (zr (g := gb323) (o := .cells #[.slice Ao21 t314.length co21, .slice Ao24 t317.length co24, .int .i64 t320, .int .i64 t321] 28 (0, 0)) zK106 hb)) (za (zu zG66 hb))))))))); clear HO300 HO303 HO306 HO313 HO316 HO319 BK310 BK323 HB; obtain ⟨HO300, HO303, HO306, HO313, HO316, HO319, BK310, BK323, HB⟩ := n_; (try clear hb); (try clear hk)))
  go_meet
  case rel => exact ⟨_, (true), zG100, H', ⟨by first | omega | exact Nat.le_refl _⟩, ⟨zH71⟩, ⟨zH63⟩, ⟨zH64⟩, ⟨zH65⟩, ⟨zH66⟩, ⟨zH79⟩, ⟨zH80⟩, ⟨zH51⟩⟩
 case rest =>
  clear HC9
  try clear c1
  try clear c2
  try clear p2
  try clear c3
  try clear c4
  try clear c4b0
  try clear c10
  try clear c13
  try clear c16
  try clear c17
  try clear c18
  try clear c22
  try clear c26
  try clear c27
  try clear c31
  try clear hcz15_0
  try clear hcz15_1
  try clear hcz15_2
  try clear hcz15_3
  try clear hcz23_0
  try clear hcz23_1
  try clear hcz23_2
  try clear hcz23_3
  try clear hcz28_0
  try clear hcz28_1
  try clear hcz28_2
  try clear hcz28_3
  try clear hcz29_0
  try clear hcz29_1
  try clear hcz29_2
  try clear hcz29_3
  try clear hcz32_0
  try clear hcz32_1
  try clear hcz32_2
  try clear hcz32_3
  try clear hcz33_0
  try clear hcz33_1
  try clear hcz33_2
  try clear hcz33_3
  try clear hfz15_0
  try clear hfz15_1
  try clear hfz15_2
  try clear hfz15_3
  try clear hfz23_0
  try clear hfz23_1
  try clear hfz23_2
  try clear hfz23_3
  try clear hfz28_0
  try clear hfz28_1
  try clear hfz28_2
  try clear hfz28_3
  try clear hfz29_0
  try clear hfz29_1
  try clear hfz29_2
  try clear hfz29_3
  try clear hfz32_0
  try clear hfz32_1
  try clear hfz32_2
  try clear hfz32_3
  try clear hfz33_0
  try clear hfz33_1
  try clear hfz33_2
  try clear hfz33_3
  obtain ⟨kq, x44_8, rfl, HA, HJ8, HO_8, HO_311000, HO_311001, HO_324000, HO_324001, BK310, BK323, HB⟩ := hcut
  cases kq with
  | zero => exact absurd HA.out (by simp [laws_FnExactBestRoute.j0])
  | succ kj8 =>
   have H := HA.out
   clear HA
   simp only [laws_FnExactBestRoute.j0] at H
   by_cases c35 : x44_8 = true
   ·subst c35
    have H1 : (some false) = some r := by rw [if_pos rfl] at H; exact H
    clear H
    have H := H1
    clear H1
    obtain rfl := Option.some.inj H
    go_wp2
    go_ret
    exact zH19
   replace c35 := Bool.eq_false_iff.mpr c35
   subst c35
   have H1 : ((laws_toStopS.f kj8 l0).bind fun t325 => ((laws_eqStopS.f kj8 t311 t325).bind fun t328 => (if t328 = true then ((laws_markStopS.f kj8 t311 1).bind fun bt329 => (if bt329.1 < 0 then (laws_FnExactBestRoute.j1 kj8 l0 a1 t309 true t301 t304 t307 t308 t314 t317 t320 t321) else ((laws_eqRoute.f kj8 t314 t317 t320 t321 t301 t304 t307 t308).bind fun t331 => (if t331 = true then (laws_FnExactBestRoute.j1 kj8 l0 a1 t309 (t322 != t309) t301 t304 t307 t308 t314 t317 t320 t321) else (laws_FnExactBestRoute.j1 kj8 l0 a1 t309 true t301 t304 t307 t308 t314 t317 t320 t321))))) else (some false)))) = some r := by rw [if_neg (show ¬ (false = true) by decide)] at H; exact H
   clear H
   have H := H1
   clear H1
   replace H := Option.bind_eq_some_iff.mp H
   obtain ⟨t325, A360, H⟩ := H
   replace H : ((laws_eqStopS.f kj8 t311 t325).bind fun t328 => (if t328 = true then ((laws_markStopS.f kj8 t311 1).bind fun bt329 => (if bt329.1 < 0 then (laws_FnExactBestRoute.j1 kj8 l0 a1 t309 true t301 t304 t307 t308 t314 t317 t320 t321) else ((laws_eqRoute.f kj8 t314 t317 t320 t321 t301 t304 t307 t308).bind fun t331 => (if t331 = true then (laws_FnExactBestRoute.j1 kj8 l0 a1 t309 (t322 != t309) t301 t304 t307 t308 t314 t317 t320 t321) else (laws_FnExactBestRoute.j1 kj8 l0 a1 t309 true t301 t304 t307 t308 t314 t317 t320 t321))))) else (some false))) = some r := H
   have A36 := za A360
   clear A360
   replace H := Option.bind_eq_some_iff.mp H
   obtain ⟨t328, A370, H⟩ := H
   replace H : (if t328 = true then ((laws_markStopS.f kj8 t311 1).bind fun bt329 => (if bt329.1 < 0 then (laws_FnExactBestRoute.j1 kj8 l0 a1 t309 true t301 t304 t307 t308 t314 t317 t320 t321) else ((laws_eqRoute.f kj8 t314 t317 t320 t321 t301 t304 t307 t308).bind fun t331 => (if t331 = true then (laws_FnExactBestRoute.j1 kj8 l0 a1 t309 (t322 != t309) t301 t304 t307 t308 t314 t317 t320 t321) else (laws_FnExactBestRoute.j1 kj8 l0 a1 t309 true t301 t304 t307 t308 t314 t317 t320 t321))))) else (some false)) = some r := H
   have A37 := za A370
   clear A370
   by_cases c38 : t328 = true
   rotate_left
   ·replace c38 := Bool.eq_false_iff.mpr c38
    subst c38
    have H1 : (some false) = some r := by rw [if_neg (show ¬ (false = true) by decide)] at H; exact H
    clear H
    have H := H1
    clear H1
    obtain rfl := Option.some.inj H
    go_wp2_with (first | ((with_reducible refine gate_callee (f := 17) rfl ?_); refine goesL_ (some 47) rfl rfl Try.func17 zG101 rfl #[.slice A0 l0.length c0] rfl zG68 ?_; (with_reducible refine (laws_toStopS.calls kj8 _ _ l0 t325 _ ?side1 ?side2 A36.out).mono ?_); (case side1 => exact zH59); (case side2 => exact zH103); rintro e w118 ⟨v326, rfl, ho0, hb⟩; refine ⟨_, rfl, ?_⟩; have n_ := zA_ (za (zba zK213 (zac ho0) hb)) (zA_ (za (zt zG92 hb)) (zA_ (za (zt zG93 hb)) (zA_ (za (zt zG94 hb)) (zA_ (za (zt zG95 hb)) (zA_ (za (zag (zad ho0 (zaa zK213)) (zq zG66))) (zA_ (za (zr (g := gb310) (o := .cells #[.slice Ao14 t301.length co14, .slice Ao16 t304.length co16, .int .i64 t307, .int .i64 t308] 28 (0, 0)) zG80 hb)) (zA_ (za (zr (g := gb323) (o := .cells #[.slice Ao21 t314.length co21, .slice Ao24 t317.length co24, .int .i64 t320, .int .i64 t321] 28 (0, 0)) zG81 hb)) (za (zu zG66 hb))))))))); clear HO_8 HO_311000 HO_311001 HO_324000 HO_324001 BK310 BK323 HB; obtain ⟨HO_8, HO_311000, HO_311001, HO_324000, HO_324001, HO327, BK310, BK323, HB⟩ := n_; (try clear hb); (try clear ho0); obtain ⟨Ao119, co119, eo119⟩ := zaf HO327.out; subst eo119) | ((with_reducible refine gate_callee (f := 19) rfl ?_); refine goesL_ (some 48) rfl rfl Try.func19 zG101 rfl #[.slice Ao18 t311.length co18, .slice Ao119 t325.length co119] rfl zG68 ?_; (with_reducible refine (laws_eqStopS.calls kj8 _ _ t311 _ _ t325 false _ ?side1 ?side2 ?side3 ?side4 A37.out).mono ?_); (case side1 => exact zH56); (case side2 => exact (Kd.R_reads' HO_8.out).2.1); (case side3 => exact zH55); (case side4 => exact (Kd.R_reads' HO327.out).2.1); rintro e w120 ⟨rfl, hb⟩; refine ⟨_, rfl, ?_⟩; have n_ := zA_ (za (zt zK213 hb)) (zA_ (za (zt zG92 hb)) (zA_ (za (zt zG93 hb)) (zA_ (za (zt zG94 hb)) (zA_ (za (zt zG95 hb)) (zA_ (za (zt zK208 hb)) (zA_ (za (zr (g := gb310) (o := .cells #[.slice Ao14 t301.length co14, .slice Ao16 t304.length co16, .int .i64 t307, .int .i64 t308] 28 (0, 0)) zG80 hb)) (zA_ (za (zr (g := gb323) (o := .cells #[.slice Ao21 t314.length co21, .slice Ao24 t317.length co24, .int .i64 t320, .int .i64 t321] 28 (0, 0)) zG81 hb)) (za (zu zG66 hb))))))))); clear HO_8 HO_311000 HO_311001 HO_324000 HO_324001 HO327 BK310 BK323 HB; obtain ⟨HO_8, HO_311000, HO_311001, HO_324000, HO_324001, HO327, BK310, BK323, HB⟩ := n_; (try clear hb)))
    go_ret
    exact zH19

   subst c38
   have H1 : ((laws_markStopS.f kj8 t311 1).bind fun bt329 => (if bt329.1 < 0 then (laws_FnExactBestRoute.j1 kj8 l0 a1 t309 true t301 t304 t307 t308 t314 t317 t320 t321) else ((laws_eqRoute.f kj8 t314 t317 t320 t321 t301 t304 t307 t308).bind fun t331 => (if t331 = true then (laws_FnExactBestRoute.j1 kj8 l0 a1 t309 (t322 != t309) t301 t304 t307 t308 t314 t317 t320 t321) else (laws_FnExactBestRoute.j1 kj8 l0 a1 t309 true t301 t304 t307 t308 t314 t317 t320 t321))))) = some r := by rw [if_pos rfl] at H; exact H
   clear H
   have H := H1
   clear H1
   replace H := Option.bind_eq_some_iff.mp H
   obtain ⟨⟨t329, t330⟩, A390, H⟩ := H
   replace H : (if t329 < 0 then (laws_FnExactBestRoute.j1 kj8 l0 a1 t309 true t301 t304 t307 t308 t314 t317 t320 t321) else ((laws_eqRoute.f kj8 t314 t317 t320 t321 t301 t304 t307 t308).bind fun t331 => (if t331 = true then (laws_FnExactBestRoute.j1 kj8 l0 a1 t309 (t322 != t309) t301 t304 t307 t308 t314 t317 t320 t321) else (laws_FnExactBestRoute.j1 kj8 l0 a1 t309 true t301 t304 t307 t308 t314 t317 t320 t321)))) = some r := H
   have A39 := za A390
   clear A390
   have HC40 := za H
   clear H
   go_upto_region 14 with (first | ((with_reducible refine gate_callee (f := 17) rfl ?_); refine goesL_ (some 47) rfl rfl Try.func17 zG101 rfl #[.slice A0 l0.length c0] rfl zG68 ?_; (with_reducible refine (laws_toStopS.calls kj8 _ _ l0 t325 _ ?side1 ?side2 A36.out).mono ?_); (case side1 => exact zH59); (case side2 => exact zH103); rintro e w41 ⟨v326, rfl, ho0, hb⟩; refine ⟨_, rfl, ?_⟩; have n_ := zA_ (za (zba zK213 (zac ho0) hb)) (zA_ (za (zt zG92 hb)) (zA_ (za (zt zG93 hb)) (zA_ (za (zt zG94 hb)) (zA_ (za (zt zG95 hb)) (zA_ (za (zag (zad ho0 (zaa zK213)) (zq zG66))) (zA_ (za (zr (g := gb310) (o := .cells #[.slice Ao14 t301.length co14, .slice Ao16 t304.length co16, .int .i64 t307, .int .i64 t308] 28 (0, 0)) zG80 hb)) (zA_ (za (zr (g := gb323) (o := .cells #[.slice Ao21 t314.length co21, .slice Ao24 t317.length co24, .int .i64 t320, .int .i64 t321] 28 (0, 0)) zG81 hb)) (za (zu zG66 hb))))))))); clear HO_8 HO_311000 HO_311001 HO_324000 HO_324001 BK310 BK323 HB; obtain ⟨HO_8, HO_311000, HO_311001, HO_324000, HO_324001, HO327, BK310, BK323, HB⟩ := n_; (try clear hb); (try clear ho0); obtain ⟨Ao42, co42, eo42⟩ := zaf HO327.out; subst eo42) | ((with_reducible refine gate_callee (f := 19) rfl ?_); refine goesL_ (some 48) rfl rfl Try.func19 zG101 rfl #[.slice Ao18 t311.length co18, .slice Ao42 t325.length co42] rfl zG68 ?_; (with_reducible refine (laws_eqStopS.calls kj8 _ _ t311 _ _ t325 true _ ?side1 ?side2 ?side3 ?side4 A37.out).mono ?_); (case side1 => exact zH56); (case side2 => exact (Kd.R_reads' HO_8.out).2.1); (case side3 => exact zH55); (case side4 => exact (Kd.R_reads' HO327.out).2.1); rintro e w43 ⟨rfl, hb⟩; refine ⟨_, rfl, ?_⟩; have n_ := zA_ (za (zt zK213 hb)) (zA_ (za (zt zG92 hb)) (zA_ (za (zt zG93 hb)) (zA_ (za (zt zG94 hb)) (zA_ (za (zt zG95 hb)) (zA_ (za (zt zK208 hb)) (zA_ (za (zr (g := gb310) (o := .cells #[.slice Ao14 t301.length co14, .slice Ao16 t304.length co16, .int .i64 t307, .int .i64 t308] 28 (0, 0)) zG80 hb)) (zA_ (za (zr (g := gb323) (o := .cells #[.slice Ao21 t314.length co21, .slice Ao24 t317.length co24, .int .i64 t320, .int .i64 t321] 28 (0, 0)) zG81 hb)) (za (zu zG66 hb))))))))); clear HO_8 HO_311000 HO_311001 HO_324000 HO_324001 HO327 BK310 BK323 HB; obtain ⟨HO_8, HO_311000, HO_311001, HO_324000, HO_324001, HO327, BK310, BK323, HB⟩ := n_; (try clear hb)) | ((with_reducible refine gate_callee (f := 20) rfl ?_); refine goesL_ (some 52) rfl rfl Try.func20 zG101 rfl #[.slice Ao18 t311.length co18, .int .i64 1] rfl zG68 ?_; (with_reducible refine (laws_markStopS.calls kj8 (fun k_ => some k_ = (.slice Ao18 t311.length co18 : Value).ownBlock) (.slice Ao18 t311.length co18) t311 1 t329 t330 w _ ?side1 ?side2 A39.out).mono ?_); (case side1 => exact zH54); (case side2 => exact zaq rfl HO_8.out); rintro e w44 ⟨rfl, hy0, hb, hkp⟩; refine ⟨_, rfl, ?_⟩; have n_ := zA_ (za (zbb rfl hy0 (fun k_ e_ => HO_8.out.1 k_ e_))) (zA_ (za (zp (ok' := fun k_ => some k_ ≠ (.slice Ao16 t304.length co16 : Value).ownBlock ∧ some k_ ≠ (.slice Ao21 t314.length co21 : Value).ownBlock ∧ some k_ ≠ (.slice Ao24 t317.length co24 : Value).ownBlock) (zan ((Kd.R_apart' HO_311000.out (Kd.R_typed HO_8.out) zG102)) hkp (fun k_ hk_ hs_ => (hk_.2) hs_)) (fun k_ hk_ => ⟨hk_.1.1.1, hk_.1.1.2.1, hk_.1.1.2.2⟩))) (zA_ (za (zp (ok' := fun k_ => some k_ ≠ (.slice Ao14 t301.length co14 : Value).ownBlock ∧ some k_ ≠ (.slice Ao21 t314.length co21 : Value).ownBlock ∧ some k_ ≠ (.slice Ao24 t317.length co24 : Value).ownBlock) (zan ((Kd.R_apart' HO_311001.out (Kd.R_typed HO_8.out) zG102)) hkp (fun k_ hk_ hs_ => (hk_.2) hs_)) (fun k_ hk_ => ⟨hk_.1.1.1, hk_.1.1.2.1, hk_.1.1.2.2⟩))) (zA_ (za (zp (ok' := fun k_ => some k_ ≠ (.slice Ao14 t301.length co14 : Value).ownBlock ∧ some k_ ≠ (.slice Ao16 t304.length co16 : Value).ownBlock ∧ some k_ ≠ (.slice Ao24 t317.length co24 : Value).ownBlock) (zan ((Kd.R_apart' HO_324000.out (Kd.R_typed HO_8.out) zG102)) hkp (fun k_ hk_ hs_ => (hk_.2) hs_)) (fun k_ hk_ => ⟨hk_.1.1.1, hk_.1.1.2.1, hk_.1.1.2.2⟩))) (zA_ (za (zp (ok' := fun k_ => some k_ ≠ (.slice Ao14 t301.length co14 : Value).ownBlock ∧ some k_ ≠ (.slice Ao16 t304.length co16 : Value).ownBlock ∧ some k_ ≠ (.slice Ao21 t314.length co21 : Value).ownBlock) (zan ((Kd.R_apart' HO_324001.out (Kd.R_typed HO_8.out) zG102)) hkp (fun k_ hk_ hs_ => (hk_.2) hs_)) (fun k_ hk_ => ⟨hk_.1.1.1, hk_.1.1.2.1, hk_.1.1.2.2⟩))) (zA_ (za (zao zG80 hkp (fun hs_ => (fun e_ => (zaj HO_8.out BK310.out zG102) e_) hs_))) (zA_ (za (zao zG81 hkp (fun hs_ => (fun e_ => (zaj HO_8.out BK323.out zG102) e_) hs_))) (zA_ (za (zp (ok' := fun k_ => some k_ ≠ (.slice Ao18 t311.length co18 : Value).ownBlock) (zan (HO327.out) hkp (fun k_ hk_ hs_ => (hk_.2) hs_)) (fun k_ hk_ => hk_.1.2))) (za (hb))))))))); clear HO_8 HO_311000 HO_311001 HO_324000 HO_324001 BK310 BK323 HO327 HB; obtain ⟨HO_8, HO_311000, HO_311001, HO_324000, HO_324001, BK310, BK323, HO327, HB⟩ := n_; (try clear hb); (try clear hkp); (try clear hy0)))
   (try simp only [Act.put, List.setIfInBounds_toArray, List.set_cons_zero, List.set_cons_succ])
   go_cut [65] (fun v65 wc => ∃ (kq : Nat) (x65_39 : Bool), v65 = .bool x65_39 ∧ Aside0 (laws_FnExactBestRoute.j1 kq l0 a1 t309 x65_39 t301 t304 t307 t308 t314 t317 t320 t321 = some r) ∧ Aside0 (kq ≤ kj8) ∧ Aside0 (Kd.R (Kd.int .i64) 3 wc w.heap.size (fun k_ => some k_ ≠ ((.slice Ao16 t304.length co16) : Value).ownBlock ∧ some k_ ≠ ((.slice Ao21 t314.length co21) : Value).ownBlock ∧ some k_ ≠ ((.slice Ao24 t317.length co24) : Value).ownBlock) (.slice Ao14 t301.length co14) t301) ∧ Aside0 (Kd.R (Kd.int .i64) 3 wc w.heap.size (fun k_ => some k_ ≠ ((.slice Ao14 t301.length co14) : Value).ownBlock ∧ some k_ ≠ ((.slice Ao21 t314.length co21) : Value).ownBlock ∧ some k_ ≠ ((.slice Ao24 t317.length co24) : Value).ownBlock) (.slice Ao16 t304.length co16) t304) ∧ Aside0 (Kd.R (Kd.int .i64) 3 wc w.heap.size (fun k_ => some k_ ≠ ((.slice Ao14 t301.length co14) : Value).ownBlock ∧ some k_ ≠ ((.slice Ao16 t304.length co16) : Value).ownBlock ∧ some k_ ≠ ((.slice Ao24 t317.length co24) : Value).ownBlock) (.slice Ao21 t314.length co21) t314) ∧ Aside0 (Kd.R (Kd.int .i64) 3 wc w.heap.size (fun k_ => some k_ ≠ ((.slice Ao14 t301.length co14) : Value).ownBlock ∧ some k_ ≠ ((.slice Ao16 t304.length co16) : Value).ownBlock ∧ some k_ ≠ ((.slice Ao21 t314.length co21) : Value).ownBlock) (.slice Ao24 t317.length co24) t317) ∧ Aside0 (wc.heap[gb310]? = some (.cells #[(.slice Ao14 t301.length co14), (.slice Ao16 t304.length co16), .int .i64 t307, .int .i64 t308] 28 (0, 0))) ∧ Aside0 (wc.heap[gb323]? = some (.cells #[(.slice Ao21 t314.length co21), (.slice Ao24 t317.length co24), .int .i64 t320, .int .i64 t321] 28 (0, 0))) ∧ Aside0 (Below w.heap.size w wc))
   case first =>
    have H := HC40.out
    clear HC40
    by_cases c45 : t329 < 0
    ·rw [if_pos c45] at H
     have c45b0 := decide_eq_true c45
     clear c45
     (first | rw [c45b0] | (simp only [i64_w, i32_w]; rw [c45b0]) | skip)
     have H' := za H
     clear H
     go_wp2
     go_meet
     case rel => exact ⟨_, (true), zG100, H', ⟨by have := HJ8.out; first | omega | exact Nat.le_refl _⟩, ⟨zH87⟩, ⟨zH88⟩, ⟨zH89⟩, ⟨zH90⟩, ⟨zH79⟩, ⟨zH80⟩, ⟨zH51⟩⟩
    rw [if_neg c45] at H
    have c45b0 := decide_eq_false c45
    clear c45
    (first | rw [c45b0] | (simp only [i64_w, i32_w]; rw [c45b0]) | skip)
    replace H := Option.bind_eq_some_iff.mp H
    obtain ⟨t331, A460, H⟩ := H
    replace H : (if t331 = true then (laws_FnExactBestRoute.j1 kj8 l0 a1 t309 (t322 != t309) t301 t304 t307 t308 t314 t317 t320 t321) else (laws_FnExactBestRoute.j1 kj8 l0 a1 t309 true t301 t304 t307 t308 t314 t317 t320 t321)) = some r := H
    have A46 := za A460
    clear A460
    by_cases c47 : t331 = true
    ·subst c47
     have H1 : (laws_FnExactBestRoute.j1 kj8 l0 a1 t309 (t322 != t309) t301 t304 t307 t308 t314 t317 t320 t321) = some r := by rw [if_pos rfl] at H; exact H
     clear H
     have H := H1
     clear H1
     have H' := za H
     clear H
     have hnb48 := NB323_310.out
     have hnc48 := NB310_323.out
     have hcz49_0 : w44.cell? ⟨gb323, 0, none⟩ = some (.slice Ao21 t314.length co21) := (zg BK323.out 0).trans rfl
     have hcz49_1 : w44.cell? ⟨gb323, 1, none⟩ = some (.slice Ao24 t317.length co24) := (zg BK323.out 1).trans rfl
     have hcz49_2 : w44.cell? ⟨gb323, 2, none⟩ = some (.int .i64 t320) := (zg BK323.out 2).trans rfl
     have hcz49_3 : w44.cell? ⟨gb323, 3, none⟩ = some (.int .i64 t321) := (zg BK323.out 3).trans rfl
     have hfz49_0 := zh BK323.out 0
     have hfz49_1 := zh BK323.out 1
     have hfz49_2 := zh BK323.out 2
     have hfz49_3 := zh BK323.out 3
     have hcz50_0 : w44.cell? ⟨gb310, 0, none⟩ = some (.slice Ao14 t301.length co14) := (zg BK310.out 0).trans rfl
     have hcz50_1 : w44.cell? ⟨gb310, 1, none⟩ = some (.slice Ao16 t304.length co16) := (zg BK310.out 1).trans rfl
     have hcz50_2 : w44.cell? ⟨gb310, 2, none⟩ = some (.int .i64 t307) := (zg BK310.out 2).trans rfl
     have hcz50_3 : w44.cell? ⟨gb310, 3, none⟩ = some (.int .i64 t308) := (zg BK310.out 3).trans rfl
     have hfz50_0 := zh BK310.out 0
     have hfz50_1 := zh BK310.out 1
     have hfz50_2 := zh BK310.out 2
     have hfz50_3 := zh BK310.out 3
     go_wp2_with (first | (go_at_call 18; (with_reducible refine (laws_eqRoute.calls kj8 _ _ t314 _ _ t317 t320 t321 _ _ t301 _ _ t304 t307 t308 true _ ?side1 ?side2 ?side3 ?side4 ?side5 ?side6 ?side7 ?side8 A46.out).mono ?_); (case side1 => exact zH49); (case side2 => exact zH100); (case side3 => exact zH50); (case side4 => exact zH101); (case side5 => exact zH46); (case side6 => exact (Kd.R_reads' HO_311000.out).2.1); (case side7 => exact zH47); (case side8 => exact (Kd.R_reads' HO_311001.out).2.1); rintro e w51 ⟨rfl, hb⟩; have n_ := zA_ (za (zt zK213 hb)) (zA_ (za (zt zG92 hb)) (zA_ (za (zt zG93 hb)) (zA_ (za (zt zG94 hb)) (zA_ (za (zt zG95 hb)) (zA_ (za (zt zK208 hb)) (zA_ (za (zr (g := gb310) (o := .cells #[.slice Ao14 t301.length co14, .slice Ao16 t304.length co16, .int .i64 t307, .int .i64 t308] 28 (0, 0)) zG80 hb)) (zA_ (za (zr (g := gb323) (o := .cells #[.slice Ao21 t314.length co21, .slice Ao24 t317.length co24, .int .i64 t320, .int .i64 t321] 28 (0, 0)) zG81 hb)) (za (zu zG66 hb))))))))); clear HO_8 HO_311000 HO_311001 HO_324000 HO_324001 HO327 BK310 BK323 HB; obtain ⟨HO_8, HO_311000, HO_311001, HO_324000, HO_324001, HO327, BK310, BK323, HB⟩ := n_; (try clear hb)))
     go_meet
     case rel => exact ⟨_, ((t322 != t309)), zG100, H', ⟨by have := HJ8.out; first | omega | exact Nat.le_refl _⟩, ⟨zH87⟩, ⟨zH88⟩, ⟨zH89⟩, ⟨zH90⟩, ⟨zH79⟩, ⟨zH80⟩, ⟨zH51⟩⟩
    replace c47 := Bool.eq_false_iff.mpr c47
    subst c47
    have H1 : (laws_FnExactBestRoute.j1 kj8 l0 a1 t309 true t301 t304 t307 t308 t314 t317 t320 t321) = some r := by rw [if_neg (show ¬ (false = true) by decide)] at H; exact H
    clear H
    have H := H1
    clear H1
    have H' := za H
    clear H
    have hnb52 := NB323_310.out
    have hnc52 := NB310_323.out
    have hcz53_0 : w44.cell? ⟨gb323, 0, none⟩ = some (.slice Ao21 t314.length co21) := (zg BK323.out 0).trans rfl
    have hcz53_1 : w44.cell? ⟨gb323, 1, none⟩ = some (.slice Ao24 t317.length co24) := (zg BK323.out 1).trans rfl
    have hcz53_2 : w44.cell? ⟨gb323, 2, none⟩ = some (.int .i64 t320) := (zg BK323.out 2).trans rfl
    have hcz53_3 : w44.cell? ⟨gb323, 3, none⟩ = some (.int .i64 t321) := (zg BK323.out 3).trans rfl
    have hfz53_0 := zh BK323.out 0
    have hfz53_1 := zh BK323.out 1
    have hfz53_2 := zh BK323.out 2
    have hfz53_3 := zh BK323.out 3
    have hcz54_0 : w44.cell? ⟨gb310, 0, none⟩ = some (.slice Ao14 t301.length co14) := (zg BK310.out 0).trans rfl
    have hcz54_1 : w44.cell? ⟨gb310, 1, none⟩ = some (.slice Ao16 t304.length co16) := (zg BK310.out 1).trans rfl
    have hcz54_2 : w44.cell? ⟨gb310, 2, none⟩ = some (.int .i64 t307) := (zg BK310.out 2).trans rfl
    have hcz54_3 : w44.cell? ⟨gb310, 3, none⟩ = some (.int .i64 t308) := (zg BK310.out 3).trans rfl
    have hfz54_0 := zh BK310.out 0
    have hfz54_1 := zh BK310.out 1
    have hfz54_2 := zh BK310.out 2
    have hfz54_3 := zh BK310.out 3
    go_wp2_with (first | (go_at_call 18; (with_reducible refine (laws_eqRoute.calls kj8 _ _ t314 _ _ t317 t320 t321 _ _ t301 _ _ t304 t307 t308 false _ ?side1 ?side2 ?side3 ?side4 ?side5 ?side6 ?side7 ?side8 A46.out).mono ?_); (case side1 => exact zH49); (case side2 => exact zH100); (case side3 => exact zH50); (case side4 => exact zH101); (case side5 => exact zH46); (case side6 => exact (Kd.R_reads' HO_311000.out).2.1); (case side7 => exact zH47); (case side8 => exact (Kd.R_reads' HO_311001.out).2.1); rintro e w55 ⟨rfl, hb⟩; have n_ := zA_ (za (zt zK213 hb)) (zA_ (za (zt zG92 hb)) (zA_ (za (zt zG93 hb)) (zA_ (za (zt zG94 hb)) (zA_ (za (zt zG95 hb)) (zA_ (za (zt zK208 hb)) (zA_ (za (zr (g := gb310) (o := .cells #[.slice Ao14 t301.length co14, .slice Ao16 t304.length co16, .int .i64 t307, .int .i64 t308] 28 (0, 0)) zG80 hb)) (zA_ (za (zr (g := gb323) (o := .cells #[.slice Ao21 t314.length co21, .slice Ao24 t317.length co24, .int .i64 t320, .int .i64 t321] 28 (0, 0)) zG81 hb)) (za (zu zG66 hb))))))))); clear HO_8 HO_311000 HO_311001 HO_324000 HO_324001 HO327 BK310 BK323 HB; obtain ⟨HO_8, HO_311000, HO_311001, HO_324000, HO_324001, HO327, BK310, BK323, HB⟩ := n_; (try clear hb)))
    go_meet
    case rel => exact ⟨_, (true), zG100, H', ⟨by have := HJ8.out; first | omega | exact Nat.le_refl _⟩, ⟨zH87⟩, ⟨zH88⟩, ⟨zH89⟩, ⟨zH90⟩, ⟨zH79⟩, ⟨zH80⟩, ⟨zH51⟩⟩
   case rest =>
    clear HC40
    try clear c1
    try clear c2
    try clear p2
    try clear c3
    try clear c4
    try clear c4b0
    try clear c5
    try clear c10
    try clear c13
    try clear c16
    try clear c17
    try clear c18
    try clear c19
    try clear c20
    try clear c22
    try clear c26
    try clear c27
    try clear c31
    try clear c35
    try clear c38
    try clear c45
    try clear c45b0
    try clear c47
    try clear c48
    try clear c52
    try clear hcz15_0
    try clear hcz15_1
    try clear hcz15_2
    try clear hcz15_3
    try clear hcz23_0
    try clear hcz23_1
    try clear hcz23_2
    try clear hcz23_3
    try clear hcz28_0
    try clear hcz28_1
    try clear hcz28_2
    try clear hcz28_3
    try clear hcz29_0
    try clear hcz29_1
    try clear hcz29_2
    try clear hcz29_3
    try clear hcz32_0
    try clear hcz32_1
    try clear hcz32_2
    try clear hcz32_3
    try clear hcz33_0
    try clear hcz33_1
    try clear hcz33_2
    try clear hcz33_3
    try clear hcz49_0
    try clear hcz49_1
    try clear hcz49_2
    try clear hcz49_3
    try clear hcz50_0
    try clear hcz50_1
    try clear hcz50_2
    try clear hcz50_3
    try clear hcz53_0
    try clear hcz53_1
    try clear hcz53_2
    try clear hcz53_3
    try clear hcz54_0
    try clear hcz54_1
    try clear hcz54_2
    try clear hcz54_3
    try clear hfz15_0
    try clear hfz15_1
    try clear hfz15_2
    try clear hfz15_3
    try clear hfz23_0
    try clear hfz23_1
    try clear hfz23_2
    try clear hfz23_3
    try clear hfz28_0
    try clear hfz28_1
    try clear hfz28_2
    try clear hfz28_3
    try clear hfz29_0
    try clear hfz29_1
    try clear hfz29_2
    try clear hfz29_3
    try clear hfz32_0
    try clear hfz32_1
    try clear hfz32_2
    try clear hfz32_3
    try clear hfz33_0
    try clear hfz33_1
    try clear hfz33_2
    try clear hfz33_3
    try clear hfz49_0
    try clear hfz49_1
    try clear hfz49_2
    try clear hfz49_3
    try clear hfz50_0
    try clear hfz50_1
    try clear hfz50_2
    try clear hfz50_3
    try clear hfz53_0
    try clear hfz53_1
    try clear hfz53_2
    try clear hfz53_3
    try clear hfz54_0
    try clear hfz54_1
    try clear hfz54_2
    try clear hfz54_3
    try clear p2
    obtain ⟨kq, x65_39, rfl, HA, HJ39, HO_311000, HO_311001, HO_324000, HO_324001, BK310, BK323, HB⟩ := hcut
    cases kq with
    | zero => exact absurd HA.out (by simp [laws_FnExactBestRoute.j1])
    | succ kj39 =>
     have H := HA.out
     clear HA
     simp only [laws_FnExactBestRoute.j1] at H
     by_cases c56 : x65_39 = true
     ·subst c56
      have H1 : (some false) = some r := by rw [if_pos rfl] at H; exact H
      clear H
      have H := H1
      clear H1
      obtain rfl := Option.some.inj H
      go_wp2
      go_ret
      exact zH19
     replace c56 := Bool.eq_false_iff.mpr c56
     subst c56
     have H1 : ((laws_markRoute.f kj39 t314 t317 t320 t321 1).bind fun bt332 => ((laws_heldRoute.f kj39 bt332.2.1 bt332.2.2 t320 t321 1).bind fun t335 => (if t335 < 0 then (some false) else (if t335 = bt332.1 then ((laws_toStopS.f kj39 l0).bind fun t336 => ((impl_BestRoute.f kj39 t336 a1).bind fun bt339 => ((laws_eqRoute.f kj39 bt339.1 bt339.2.1 bt339.2.2.1 bt339.2.2.2.1 t301 t304 t307 t308).bind fun t349 => (if t349 = true then (laws_FnExactBestRoute.j2 kj39 bt332.1 (bt339.2.2.2.2 != t309) bt332.2.1 bt332.2.2 t320 t321) else (laws_FnExactBestRoute.j2 kj39 bt332.1 true bt332.2.1 bt332.2.2 t320 t321))))) else (some false))))) = some r := by rw [if_neg (show ¬ (false = true) by decide)] at H; exact H
     clear H
     have H := H1
     clear H1
     replace H := Option.bind_eq_some_iff.mp H
     obtain ⟨⟨t332, t333, t334⟩, A570, H⟩ := H
     replace H : ((laws_heldRoute.f kj39 t333 t334 t320 t321 1).bind fun t335 => (if t335 < 0 then (some false) else (if t335 = t332 then ((laws_toStopS.f kj39 l0).bind fun t336 => ((impl_BestRoute.f kj39 t336 a1).bind fun bt339 => ((laws_eqRoute.f kj39 bt339.1 bt339.2.1 bt339.2.2.1 bt339.2.2.2.1 t301 t304 t307 t308).bind fun t349 => (if t349 = true then (laws_FnExactBestRoute.j2 kj39 t332 (bt339.2.2.2.2 != t309) t333 t334 t320 t321) else (laws_FnExactBestRoute.j2 kj39 t332 true t333 t334 t320 t321))))) else (some false)))) = some r := H
     have A57 := za A570
     clear A570
     replace H := Option.bind_eq_some_iff.mp H
     obtain ⟨t335, A580, H⟩ := H
     replace H : (if t335 < 0 then (some false) else (if t335 = t332 then ((laws_toStopS.f kj39 l0).bind fun t336 => ((impl_BestRoute.f kj39 t336 a1).bind fun bt339 => ((laws_eqRoute.f kj39 bt339.1 bt339.2.1 bt339.2.2.1 bt339.2.2.2.1 t301 t304 t307 t308).bind fun t349 => (if t349 = true then (laws_FnExactBestRoute.j2 kj39 t332 (bt339.2.2.2.2 != t309) t333 t334 t320 t321) else (laws_FnExactBestRoute.j2 kj39 t332 true t333 t334 t320 t321))))) else (some false))) = some r := H
     have A58 := za A580
     clear A580
     by_cases c59 : t335 < 0
     ·rw [if_pos c59] at H
      have c59b0 := decide_eq_true c59
      clear c59
      obtain rfl := Option.some.inj H
      have hnb60 := NB323_310.out
      have hnc60 := NB310_323.out
      have hcz61_0 : wc.cell? ⟨gb323, 0, none⟩ = some (.slice Ao21 t314.length co21) := (zg BK323.out 0).trans rfl
      have hcz61_1 : wc.cell? ⟨gb323, 1, none⟩ = some (.slice Ao24 t317.length co24) := (zg BK323.out 1).trans rfl
      have hcz61_2 : wc.cell? ⟨gb323, 2, none⟩ = some (.int .i64 t320) := (zg BK323.out 2).trans rfl
      have hcz61_3 : wc.cell? ⟨gb323, 3, none⟩ = some (.int .i64 t321) := (zg BK323.out 3).trans rfl
      have hfz61_0 := zh BK323.out 0
      have hfz61_1 := zh BK323.out 1
      have hfz61_2 := zh BK323.out 2
      have hfz61_3 := zh BK323.out 3
      go_wp2_with (first | ((with_reducible refine gate_callee (f := 21) rfl ?_); refine goesL_ (some 68) rfl rfl Try.func21 zG101 rfl #[.agg #[.slice Ao21 t314.length co21, .slice Ao24 t317.length co24, .int .i64 t320, .int .i64 t321], .int .i64 1] rfl zG68 ?_; (with_reducible refine (laws_markRoute.calls kj39 (fun k_ => some k_ = (.slice Ao21 t314.length co21 : Value).ownBlock) (.slice Ao21 t314.length co21) t314 (fun k_ => some k_ = (.slice Ao24 t317.length co24 : Value).ownBlock) (.slice Ao24 t317.length co24) t317 t320 t321 1 t332 t333 t334 w _ ?side1 ?side2 ?side3 ?side4 ?side5 A57.out).mono ?_); (case side1 => exact zH54); (case side2 => exact zaq rfl HO_324000.out); (case side3 => exact fun k_ e_ => (HO_324000.out.1 k_ e_.symm).2.2); (case side4 => exact zaq rfl HO_324001.out); (case side5 => exact fun k_ e_ => (HO_324001.out.1 k_ e_.symm).2.2); rintro e w62 ⟨rfl, hy0, hy1, hb, hkp⟩; refine ⟨_, rfl, ?_⟩; have n_ := zA_ (za (zp (ok' := fun k_ => some k_ ≠ (.slice Ao16 t304.length co16 : Value).ownBlock ∧ some k_ ≠ (.slice Ao21 t314.length co21 : Value).ownBlock ∧ some k_ ≠ (.slice Ao24 t317.length co24 : Value).ownBlock) (zan (HO_311000.out) hkp (fun k_ hk_ hs_ => Or.elim hs_ (fun e_ => (hk_.2.1) e_) (fun e_ => (hk_.2.2) e_))) (fun k_ hk_ => ⟨hk_.1.1, hk_.1.2.1, hk_.1.2.2⟩))) (zA_ (za (zp (ok' := fun k_ => some k_ ≠ (.slice Ao14 t301.length co14 : Value).ownBlock ∧ some k_ ≠ (.slice Ao21 t314.length co21 : Value).ownBlock ∧ some k_ ≠ (.slice Ao24 t317.length co24 : Value).ownBlock) (zan (HO_311001.out) hkp (fun k_ hk_ hs_ => Or.elim hs_ (fun e_ => (hk_.2.1) e_) (fun e_ => (hk_.2.2) e_))) (fun k_ hk_ => ⟨hk_.1.1, hk_.1.2.1, hk_.1.2.2⟩))) (zA_ (za (zbb rfl hy0 (fun k_ e_ => HO_324000.out.1 k_ e_))) (zA_ (za (zbb rfl hy1 (fun k_ e_ => HO_324001.out.1 k_ e_))) (zA_ (za (zao zG80 hkp (fun hs_ => Or.elim hs_ (fun e_ => (fun e_ => (zaj HO_324000.out BK310.out zG102) e_) e_) (fun e_ => (fun e_ => (zaj HO_324001.out BK310.out zG102) e_) e_)))) (zA_ (za (zao zG81 hkp (fun hs_ => Or.elim hs_ (fun e_ => (fun e_ => (zaj HO_324000.out BK323.out zG102) e_) e_) (fun e_ => (fun e_ => (zaj HO_324001.out BK323.out zG102) e_) e_)))) (za (hb))))))); clear HO_311000 HO_311001 HO_324000 HO_324001 BK310 BK323 HB; obtain ⟨HO_311000, HO_311001, HO_324000, HO_324001, BK310, BK323, HB⟩ := n_; (try clear hb); (try clear hkp); (try clear hy0); (try clear hy1); have hcz63_0 : w62.cell? ⟨gb323, 0, none⟩ = some (.slice Ao21 t314.length co21) := (zg BK323.out 0).trans rfl; have hcz63_1 : w62.cell? ⟨gb323, 1, none⟩ = some (.slice Ao24 t317.length co24) := (zg BK323.out 1).trans rfl; have hcz63_2 : w62.cell? ⟨gb323, 2, none⟩ = some (.int .i64 t320) := (zg BK323.out 2).trans rfl; have hcz63_3 : w62.cell? ⟨gb323, 3, none⟩ = some (.int .i64 t321) := (zg BK323.out 3).trans rfl; have hfz63_0 := zh BK323.out 0; have hfz63_1 := zh BK323.out 1; have hfz63_2 := zh BK323.out 2; have hfz63_3 := zh BK323.out 3) | ((with_reducible refine gate_callee (f := 22) rfl ?_); refine goesL_ (some 71) rfl rfl Try.func22 zG101 rfl #[.agg #[.slice Ao21 t333.length co21, .slice Ao24 t334.length co24, .int .i64 t320, .int .i64 t321], .int .i64 1] rfl zK147 ?_; (with_reducible refine (laws_heldRoute.calls kj39 _ _ t333 _ _ t334 t320 t321 1 t335 _ ?side1 ?side2 ?side3 ?side4 A58.out).mono ?_); (case side1 => exact zH49); (case side2 => exact zH69); (case side3 => exact zH50); (case side4 => exact zH70); rintro e w64 ⟨rfl, hb⟩; refine ⟨_, rfl, ?_⟩; have n_ := zA_ (za (zt zG92 hb)) (zA_ (za (zt zG93 hb)) (zA_ (za (zt zG94 hb)) (zA_ (za (zt zG95 hb)) (zA_ (za (zr (g := gb310) (o := .cells #[.slice Ao14 t301.length co14, .slice Ao16 t304.length co16, .int .i64 t307, .int .i64 t308] 28 (0, 0)) zG80 hb)) (zA_ (za (zr (g := gb323) (o := .cells #[.slice Ao21 t314.length co21, .slice Ao24 t317.length co24, .int .i64 t320, .int .i64 t321] 28 (0, 0)) zG81 hb)) (za (zu zG66 hb))))))); clear HO_311000 HO_311001 HO_324000 HO_324001 BK310 BK323 HB; obtain ⟨HO_311000, HO_311001, HO_324000, HO_324001, BK310, BK323, HB⟩ := n_; (try clear hb)))
      go_ret
      exact zH19
     rw [if_neg c59] at H
     have c59b0 := decide_eq_false c59
     clear c59
     by_cases c65 : t335 = t332
     rotate_left
     ·rw [if_neg c65] at H
      have c65b0 : (t335 == t332) = false := beq_eq_false_iff_ne.mpr c65
      have c65b1 : (t335 != t332) = true := bne_iff_ne.mpr c65
      obtain rfl := Option.some.inj H
      have hnb113 := NB323_310.out
      have hnc113 := NB310_323.out
      have hcz114_0 : wc.cell? ⟨gb323, 0, none⟩ = some (.slice Ao21 t314.length co21) := (zg BK323.out 0).trans rfl
      have hcz114_1 : wc.cell? ⟨gb323, 1, none⟩ = some (.slice Ao24 t317.length co24) := (zg BK323.out 1).trans rfl
      have hcz114_2 : wc.cell? ⟨gb323, 2, none⟩ = some (.int .i64 t320) := (zg BK323.out 2).trans rfl
      have hcz114_3 : wc.cell? ⟨gb323, 3, none⟩ = some (.int .i64 t321) := (zg BK323.out 3).trans rfl
      have hfz114_0 := zh BK323.out 0
      have hfz114_1 := zh BK323.out 1
      have hfz114_2 := zh BK323.out 2
      have hfz114_3 := zh BK323.out 3
      go_wp2_with (first | ((with_reducible refine gate_callee (f := 21) rfl ?_); refine goesL_ (some 68) rfl rfl Try.func21 zG101 rfl #[.agg #[.slice Ao21 t314.length co21, .slice Ao24 t317.length co24, .int .i64 t320, .int .i64 t321], .int .i64 1] rfl zG68 ?_; (with_reducible refine (laws_markRoute.calls kj39 (fun k_ => some k_ = (.slice Ao21 t314.length co21 : Value).ownBlock) (.slice Ao21 t314.length co21) t314 (fun k_ => some k_ = (.slice Ao24 t317.length co24 : Value).ownBlock) (.slice Ao24 t317.length co24) t317 t320 t321 1 t332 t333 t334 w _ ?side1 ?side2 ?side3 ?side4 ?side5 A57.out).mono ?_); (case side1 => exact zH54); (case side2 => exact zaq rfl HO_324000.out); (case side3 => exact fun k_ e_ => (HO_324000.out.1 k_ e_.symm).2.2); (case side4 => exact zaq rfl HO_324001.out); (case side5 => exact fun k_ e_ => (HO_324001.out.1 k_ e_.symm).2.2); rintro e w115 ⟨rfl, hy0, hy1, hb, hkp⟩; refine ⟨_, rfl, ?_⟩; have n_ := zA_ (za (zp (ok' := fun k_ => some k_ ≠ (.slice Ao16 t304.length co16 : Value).ownBlock ∧ some k_ ≠ (.slice Ao21 t314.length co21 : Value).ownBlock ∧ some k_ ≠ (.slice Ao24 t317.length co24 : Value).ownBlock) (zan (HO_311000.out) hkp (fun k_ hk_ hs_ => Or.elim hs_ (fun e_ => (hk_.2.1) e_) (fun e_ => (hk_.2.2) e_))) (fun k_ hk_ => ⟨hk_.1.1, hk_.1.2.1, hk_.1.2.2⟩))) (zA_ (za (zp (ok' := fun k_ => some k_ ≠ (.slice Ao14 t301.length co14 : Value).ownBlock ∧ some k_ ≠ (.slice Ao21 t314.length co21 : Value).ownBlock ∧ some k_ ≠ (.slice Ao24 t317.length co24 : Value).ownBlock) (zan (HO_311001.out) hkp (fun k_ hk_ hs_ => Or.elim hs_ (fun e_ => (hk_.2.1) e_) (fun e_ => (hk_.2.2) e_))) (fun k_ hk_ => ⟨hk_.1.1, hk_.1.2.1, hk_.1.2.2⟩))) (zA_ (za (zbb rfl hy0 (fun k_ e_ => HO_324000.out.1 k_ e_))) (zA_ (za (zbb rfl hy1 (fun k_ e_ => HO_324001.out.1 k_ e_))) (zA_ (za (zao zG80 hkp (fun hs_ => Or.elim hs_ (fun e_ => (fun e_ => (zaj HO_324000.out BK310.out zG102) e_) e_) (fun e_ => (fun e_ => (zaj HO_324001.out BK310.out zG102) e_) e_)))) (zA_ (za (zao zG81 hkp (fun hs_ => Or.elim hs_ (fun e_ => (fun e_ => (zaj HO_324000.out BK323.out zG102) e_) e_) (fun e_ => (fun e_ => (zaj HO_324001.out BK323.out zG102) e_) e_)))) (za (hb))))))); clear HO_311000 HO_311001 HO_324000 HO_324001 BK310 BK323 HB; obtain ⟨HO_311000, HO_311001, HO_324000, HO_324001, BK310, BK323, HB⟩ := n_; (try clear hb); (try clear hkp); (try clear hy0); (try clear hy1); have hcz116_0 : w115.cell? ⟨gb323, 0, none⟩ = some (.slice Ao21 t314.length co21) := (zg BK323.out 0).trans rfl; have hcz116_1 : w115.cell? ⟨gb323, 1, none⟩ = some (.slice Ao24 t317.length co24) := (zg BK323.out 1).trans rfl; have hcz116_2 : w115.cell? ⟨gb323, 2, none⟩ = some (.int .i64 t320) := (zg BK323.out 2).trans rfl; have hcz116_3 : w115.cell? ⟨gb323, 3, none⟩ = some (.int .i64 t321) := (zg BK323.out 3).trans rfl; have hfz116_0 := zh BK323.out 0; have hfz116_1 := zh BK323.out 1; have hfz116_2 := zh BK323.out 2; have hfz116_3 := zh BK323.out 3) | ((with_reducible refine gate_callee (f := 22) rfl ?_); refine goesL_ (some 71) rfl rfl Try.func22 zG101 rfl #[.agg #[.slice Ao21 t333.length co21, .slice Ao24 t334.length co24, .int .i64 t320, .int .i64 t321], .int .i64 1] rfl zK147 ?_; (with_reducible refine (laws_heldRoute.calls kj39 _ _ t333 _ _ t334 t320 t321 1 t335 _ ?side1 ?side2 ?side3 ?side4 A58.out).mono ?_); (case side1 => exact zH49); (case side2 => exact zH69); (case side3 => exact zH50); (case side4 => exact zH70); rintro e w117 ⟨rfl, hb⟩; refine ⟨_, rfl, ?_⟩; have n_ := zA_ (za (zt zG92 hb)) (zA_ (za (zt zG93 hb)) (zA_ (za (zt zG94 hb)) (zA_ (za (zt zG95 hb)) (zA_ (za (zr (g := gb310) (o := .cells #[.slice Ao14 t301.length co14, .slice Ao16 t304.length co16, .int .i64 t307, .int .i64 t308] 28 (0, 0)) zG80 hb)) (zA_ (za (zr (g := gb323) (o := .cells #[.slice Ao21 t314.length co21, .slice Ao24 t317.length co24, .int .i64 t320, .int .i64 t321] 28 (0, 0)) zG81 hb)) (za (zu zG66 hb))))))); clear HO_311000 HO_311001 HO_324000 HO_324001 BK310 BK323 HB; obtain ⟨HO_311000, HO_311001, HO_324000, HO_324001, BK310, BK323, HB⟩ := n_; (try clear hb)))
      go_ret
      exact zH19
     rw [if_pos c65] at H
     have c65b0 : (t335 == t332) = true := beq_iff_eq.mpr c65
     have c65b1 : (t335 != t332) = false := bne_eq_false_iff_eq.mpr c65
     clear c65
     replace H := Option.bind_eq_some_iff.mp H
     obtain ⟨t336, A660, H⟩ := H
     replace H : ((impl_BestRoute.f kj39 t336 a1).bind fun bt339 => ((laws_eqRoute.f kj39 bt339.1 bt339.2.1 bt339.2.2.1 bt339.2.2.2.1 t301 t304 t307 t308).bind fun t349 => (if t349 = true then (laws_FnExactBestRoute.j2 kj39 t332 (bt339.2.2.2.2 != t309) t333 t334 t320 t321) else (laws_FnExactBestRoute.j2 kj39 t332 true t333 t334 t320 t321)))) = some r := H
     have A66 := za A660
     clear A660
     replace H := Option.bind_eq_some_iff.mp H
     obtain ⟨⟨t339, t342, t345, t346, t347⟩, A670, H⟩ := H
     replace H : ((laws_eqRoute.f kj39 t339 t342 t345 t346 t301 t304 t307 t308).bind fun t349 => (if t349 = true then (laws_FnExactBestRoute.j2 kj39 t332 (t347 != t309) t333 t334 t320 t321) else (laws_FnExactBestRoute.j2 kj39 t332 true t333 t334 t320 t321))) = some r := H
     have A67 := za A670
     clear A670
     have HC68 := za H
     clear H
     have hnb69 := NB323_310.out
     have hnc69 := NB310_323.out
     have hcz70_0 : wc.cell? ⟨gb323, 0, none⟩ = some (.slice Ao21 t314.length co21) := (zg BK323.out 0).trans rfl
     have hcz70_1 : wc.cell? ⟨gb323, 1, none⟩ = some (.slice Ao24 t317.length co24) := (zg BK323.out 1).trans rfl
     have hcz70_2 : wc.cell? ⟨gb323, 2, none⟩ = some (.int .i64 t320) := (zg BK323.out 2).trans rfl
     have hcz70_3 : wc.cell? ⟨gb323, 3, none⟩ = some (.int .i64 t321) := (zg BK323.out 3).trans rfl
     have hfz70_0 := zh BK323.out 0
     have hfz70_1 := zh BK323.out 1
     have hfz70_2 := zh BK323.out 2
     have hfz70_3 := zh BK323.out 3
     go_upto_region 25 with (first | ((with_reducible refine gate_callee (f := 21) rfl ?_); refine goesL_ (some 68) rfl rfl Try.func21 zG101 rfl #[.agg #[.slice Ao21 t314.length co21, .slice Ao24 t317.length co24, .int .i64 t320, .int .i64 t321], .int .i64 1] rfl zG68 ?_; (with_reducible refine (laws_markRoute.calls kj39 (fun k_ => some k_ = (.slice Ao21 t314.length co21 : Value).ownBlock) (.slice Ao21 t314.length co21) t314 (fun k_ => some k_ = (.slice Ao24 t317.length co24 : Value).ownBlock) (.slice Ao24 t317.length co24) t317 t320 t321 1 t332 t333 t334 w _ ?side1 ?side2 ?side3 ?side4 ?side5 A57.out).mono ?_); (case side1 => exact zH54); (case side2 => exact zaq rfl HO_324000.out); (case side3 => exact fun k_ e_ => (HO_324000.out.1 k_ e_.symm).2.2); (case side4 => exact zaq rfl HO_324001.out); (case side5 => exact fun k_ e_ => (HO_324001.out.1 k_ e_.symm).2.2); rintro e w71 ⟨rfl, hy0, hy1, hb, hkp⟩; refine ⟨_, rfl, ?_⟩; have n_ := zA_ (za (zp (ok' := fun k_ => some k_ ≠ (.slice Ao16 t304.length co16 : Value).ownBlock ∧ some k_ ≠ (.slice Ao21 t314.length co21 : Value).ownBlock ∧ some k_ ≠ (.slice Ao24 t317.length co24 : Value).ownBlock) (zan (HO_311000.out) hkp (fun k_ hk_ hs_ => Or.elim hs_ (fun e_ => (hk_.2.1) e_) (fun e_ => (hk_.2.2) e_))) (fun k_ hk_ => ⟨hk_.1.1, hk_.1.2.1, hk_.1.2.2⟩))) (zA_ (za (zp (ok' := fun k_ => some k_ ≠ (.slice Ao14 t301.length co14 : Value).ownBlock ∧ some k_ ≠ (.slice Ao21 t314.length co21 : Value).ownBlock ∧ some k_ ≠ (.slice Ao24 t317.length co24 : Value).ownBlock) (zan (HO_311001.out) hkp (fun k_ hk_ hs_ => Or.elim hs_ (fun e_ => (hk_.2.1) e_) (fun e_ => (hk_.2.2) e_))) (fun k_ hk_ => ⟨hk_.1.1, hk_.1.2.1, hk_.1.2.2⟩))) (zA_ (za (zbb rfl hy0 (fun k_ e_ => HO_324000.out.1 k_ e_))) (zA_ (za (zbb rfl hy1 (fun k_ e_ => HO_324001.out.1 k_ e_))) (zA_ (za (zao zG80 hkp (fun hs_ => Or.elim hs_ (fun e_ => (fun e_ => (zaj HO_324000.out BK310.out zG102) e_) e_) (fun e_ => (fun e_ => (zaj HO_324001.out BK310.out zG102) e_) e_)))) (zA_ (za (zao zG81 hkp (fun hs_ => Or.elim hs_ (fun e_ => (fun e_ => (zaj HO_324000.out BK323.out zG102) e_) e_) (fun e_ => (fun e_ => (zaj HO_324001.out BK323.out zG102) e_) e_)))) (za (hb))))))); clear HO_311000 HO_311001 HO_324000 HO_324001 BK310 BK323 HB; obtain ⟨HO_311000, HO_311001, HO_324000, HO_324001, BK310, BK323, HB⟩ := n_; (try clear hb); (try clear hkp); (try clear hy0); (try clear hy1); have hcz72_0 : w71.cell? ⟨gb323, 0, none⟩ = some (.slice Ao21 t314.length co21) := (zg BK323.out 0).trans rfl; have hcz72_1 : w71.cell? ⟨gb323, 1, none⟩ = some (.slice Ao24 t317.length co24) := (zg BK323.out 1).trans rfl; have hcz72_2 : w71.cell? ⟨gb323, 2, none⟩ = some (.int .i64 t320) := (zg BK323.out 2).trans rfl; have hcz72_3 : w71.cell? ⟨gb323, 3, none⟩ = some (.int .i64 t321) := (zg BK323.out 3).trans rfl; have hfz72_0 := zh BK323.out 0; have hfz72_1 := zh BK323.out 1; have hfz72_2 := zh BK323.out 2; have hfz72_3 := zh BK323.out 3) | ((with_reducible refine gate_callee (f := 22) rfl ?_); refine goesL_ (some 71) rfl rfl Try.func22 zG101 rfl #[.agg #[.slice Ao21 t333.length co21, .slice Ao24 t334.length co24, .int .i64 t320, .int .i64 t321], .int .i64 1] rfl zK147 ?_; (with_reducible refine (laws_heldRoute.calls kj39 _ _ t333 _ _ t334 t320 t321 1 t335 _ ?side1 ?side2 ?side3 ?side4 A58.out).mono ?_); (case side1 => exact zH49); (case side2 => exact zH69); (case side3 => exact zH50); (case side4 => exact zH70); rintro e w73 ⟨rfl, hb⟩; refine ⟨_, rfl, ?_⟩; have n_ := zA_ (za (zt zG92 hb)) (zA_ (za (zt zG93 hb)) (zA_ (za (zt zG94 hb)) (zA_ (za (zt zG95 hb)) (zA_ (za (zr (g := gb310) (o := .cells #[.slice Ao14 t301.length co14, .slice Ao16 t304.length co16, .int .i64 t307, .int .i64 t308] 28 (0, 0)) zG80 hb)) (zA_ (za (zr (g := gb323) (o := .cells #[.slice Ao21 t314.length co21, .slice Ao24 t317.length co24, .int .i64 t320, .int .i64 t321] 28 (0, 0)) zG81 hb)) (za (zu zG66 hb))))))); clear HO_311000 HO_311001 HO_324000 HO_324001 BK310 BK323 HB; obtain ⟨HO_311000, HO_311001, HO_324000, HO_324001, BK310, BK323, HB⟩ := n_; (try clear hb)) | ((with_reducible refine gate_callee (f := 17) rfl ?_); refine goesL_ (some 79) rfl rfl Try.func17 zG101 rfl #[.slice A0 l0.length c0] rfl zG68 ?_; (with_reducible refine (laws_toStopS.calls kj39 _ _ l0 t336 _ ?side1 ?side2 A66.out).mono ?_); (case side1 => exact zH59); (case side2 => exact zH103); rintro e w74 ⟨v337, rfl, ho0, hb⟩; refine ⟨_, rfl, ?_⟩; have n_ := zA_ (za (zt zG92 hb)) (zA_ (za (zt zG93 hb)) (zA_ (za (zt zG94 hb)) (zA_ (za (zt zG95 hb)) (zA_ (za (zag ho0 (zq zG66))) (zA_ (za (zr (g := gb310) (o := .cells #[.slice Ao14 t301.length co14, .slice Ao16 t304.length co16, .int .i64 t307, .int .i64 t308] 28 (0, 0)) zG80 hb)) (zA_ (za (zr (g := gb323) (o := .cells #[.slice Ao21 t314.length co21, .slice Ao24 t317.length co24, .int .i64 t320, .int .i64 t321] 28 (0, 0)) zG81 hb)) (za (zu zG66 hb)))))))); clear HO_311000 HO_311001 HO_324000 HO_324001 BK310 BK323 HB; obtain ⟨HO_311000, HO_311001, HO_324000, HO_324001, HO338, BK310, BK323, HB⟩ := n_; (try clear hb); (try clear ho0); obtain ⟨Ao75, co75, eo75⟩ := zaf HO338.out; subst eo75) | ((with_reducible refine gate_callee (f := 10) rfl ?_); refine goesL_ (some 81) rfl rfl Try.func10 zG101 rfl #[.slice Ao75 t336.length co75, .int .i64 a1] rfl zG68 ?_; (with_reducible refine (impl_BestRoute.calls kj39 _ _ t336 a1 t339 t342 t345 t346 t347 _ ?side1 ?side2 A67.out).mono ?_); (case side1 => repeat (first | exact (Kd.R_reads' HO338.out).2.2 | (with_reducible refine zy ?_ _) | (with_reducible refine zz ?_ _) | (with_reducible refine zab ?_))); (case side2 => exact (Kd.R_reads' HO338.out).2.1); rintro e w76 ⟨v340, v343, rfl, ho0, ho1, hb⟩; refine ⟨_, rfl, ?_⟩; have n_ := zA_ (za (zp (zae (zae (zak zG92 hb) (zac ho0)) (zac ho1)) (fun _ h_ => h_.1))) (zA_ (za (zp (zae (zae (zak zG93 hb) (zac ho0)) (zac ho1)) (fun _ h_ => h_.1))) (zA_ (za (zp (zae (zae (zak zG94 hb) (zac ho0)) (zac ho1)) (fun _ h_ => h_.1))) (zA_ (za (zp (zae (zae (zak zG95 hb) (zac ho0)) (zac ho1)) (fun _ h_ => h_.1))) (zA_ (za (zt (by (with_reducible repeat (first | apply zk | apply zl | apply zm)); exact HO338.out) hb)) (zA_ (za (zag (zad (zad (zad (zad ho0 (zaa zG92)) (zaa zG93)) (zaa zG94)) (zaa zG95)) (zq zG66))) (zA_ (za (zag (zad (zad (zad (zad ho1 (zaa zG92)) (zaa zG93)) (zaa zG94)) (zaa zG95)) (zq zG66))) (zA_ (za (zr (g := gb310) (o := .cells #[.slice Ao14 t301.length co14, .slice Ao16 t304.length co16, .int .i64 t307, .int .i64 t308] 28 (0, 0)) zG80 hb)) (zA_ (za (zr (g := gb323) (o := .cells #[.slice Ao21 t314.length co21, .slice Ao24 t317.length co24, .int .i64 t320, .int .i64 t321] 28 (0, 0)) zG81 hb)) (za (zu zG66 hb)))))))))); clear HO_311000 HO_311001 HO_324000 HO_324001 HO338 BK310 BK323 HB; obtain ⟨HO_311000, HO_311001, HO_324000, HO_324001, HO338, HO341, HO344, BK310, BK323, HB⟩ := n_; (try clear hb); (try clear ho0); (try clear ho1)) | ((with_reducible refine gate_dst (N := 14) rfl ?_); refine box_event ?hg (N := 14) ?hd (cs := #[.slice none 0 0, .slice none 0 0, .int .i64 0, .int .i64 0]) (t := 28) ?hr ?_; (case hd => rfl); (case hg => rfl); (case hr => exact zH99); intro gb348 hg w77 hbox hb; have n_ := zA_ (za (zt zG92 hb)) (zA_ (za (zt zG93 hb)) (zA_ (za (zt zG94 hb)) (zA_ (za (zt zG95 hb)) (zA_ (za (zt (by (with_reducible repeat (first | apply zk | apply zl | apply zm)); exact HO338.out) hb)) (zA_ (za (zt (by (with_reducible repeat (first | apply zk | apply zl | apply zm)); exact HO341.out) hb)) (zA_ (za (zt (by (with_reducible repeat (first | apply zk | apply zl | apply zm)); exact HO344.out) hb)) (zA_ (za (zr (g := gb310) (o := .cells #[.slice Ao14 t301.length co14, .slice Ao16 t304.length co16, .int .i64 t307, .int .i64 t308] 28 (0, 0)) zG80 hb)) (zA_ (za (zr (g := gb323) (o := .cells #[.slice Ao21 t314.length co21, .slice Ao24 t317.length co24, .int .i64 t320, .int .i64 t321] 28 (0, 0)) zG81 hb)) (zA_ (za (zu zG66 hb)) (zA_ (za (hbox)) (zA_ (za ((by rw [hg]; exact (zq zG66) : w.heap.size ≤ gb348))) (zA_ (za ((by rw [hg]; exact (zq zG66) : w.heap.size ≤ gb348))) (zA_ (za ((by rw [hg]; exact Nat.ne_of_lt (zx (g := gb310) (o := .cells #[.slice Ao14 t301.length co14, .slice Ao16 t304.length co16, .int .i64 t307, .int .i64 t308] 28 (0, 0)) zG80) : gb310 ≠ gb348))) (zA_ (za ((by rw [hg]; exact Nat.ne_of_gt (zx (g := gb310) (o := .cells #[.slice Ao14 t301.length co14, .slice Ao16 t304.length co16, .int .i64 t307, .int .i64 t308] 28 (0, 0)) zG80) : gb348 ≠ gb310))) (zA_ (za ((by rw [hg]; exact Nat.ne_of_lt (zx (g := gb323) (o := .cells #[.slice Ao21 t314.length co21, .slice Ao24 t317.length co24, .int .i64 t320, .int .i64 t321] 28 (0, 0)) zG81) : gb323 ≠ gb348))) (za ((by rw [hg]; exact Nat.ne_of_gt (zx (g := gb323) (o := .cells #[.slice Ao21 t314.length co21, .slice Ao24 t317.length co24, .int .i64 t320, .int .i64 t321] 28 (0, 0)) zG81) : gb348 ≠ gb323)))))))))))))))))); clear HO_311000 HO_311001 HO_324000 HO_324001 HO338 HO341 HO344 BK310 BK323 HB; obtain ⟨HO_311000, HO_311001, HO_324000, HO_324001, HO338, HO341, HO344, BK310, BK323, HB, BK348, GW348, GE348, NB310_348, NB348_310, NB323_348, NB348_323⟩ := n_; clear hb hbox hg; obtain ⟨Ao78, co78, eo78⟩ := zaf HO341.out; subst eo78; have hnb79 := NB348_310.out; have hnc79 := NB310_348.out; have hnb80 := NB348_323.out; have hnc80 := NB323_348.out; have hcz81_0 : w77.cell? ⟨gb348, 0, none⟩ = some (.slice none 0 0) := (zg BK348.out 0).trans rfl; have hcz81_1 : w77.cell? ⟨gb348, 1, none⟩ = some (.slice none 0 0) := (zg BK348.out 1).trans rfl; have hcz81_2 : w77.cell? ⟨gb348, 2, none⟩ = some (.int .i64 0) := (zg BK348.out 2).trans rfl; have hcz81_3 : w77.cell? ⟨gb348, 3, none⟩ = some (.int .i64 0) := (zg BK348.out 3).trans rfl; have hfz81_0 := zh BK348.out 0; have hfz81_1 := zh BK348.out 1; have hfz81_2 := zh BK348.out 2; have hfz81_3 := zh BK348.out 3; obtain ⟨Ao82, co82, eo82⟩ := zaf HO344.out; subst eo82))
     (try simp only [Act.put, List.setIfInBounds_toArray, List.set_cons_zero, List.set_cons_succ])
     go_cut [92] (fun v92 wc => ∃ (kq : Nat) (x92_67 : Bool), v92 = .bool x92_67 ∧ Aside0 (laws_FnExactBestRoute.j2 kq t332 x92_67 t333 t334 t320 t321 = some r) ∧ Aside0 (kq ≤ kj39) ∧ Aside0 (Kd.R (Kd.int .i64) 3 wc w.heap.size (fun k_ => some k_ ≠ ((.slice Ao16 t304.length co16) : Value).ownBlock ∧ some k_ ≠ ((.slice Ao21 t314.length co21) : Value).ownBlock ∧ some k_ ≠ ((.slice Ao24 t317.length co24) : Value).ownBlock ∧ some k_ ≠ ((.slice Ao78 t339.length co78) : Value).ownBlock ∧ some k_ ≠ ((.slice Ao82 t342.length co82) : Value).ownBlock) (.slice Ao14 t301.length co14) t301) ∧ Aside0 (Kd.R (Kd.int .i64) 3 wc w.heap.size (fun k_ => some k_ ≠ ((.slice Ao14 t301.length co14) : Value).ownBlock ∧ some k_ ≠ ((.slice Ao21 t314.length co21) : Value).ownBlock ∧ some k_ ≠ ((.slice Ao24 t317.length co24) : Value).ownBlock ∧ some k_ ≠ ((.slice Ao78 t339.length co78) : Value).ownBlock ∧ some k_ ≠ ((.slice Ao82 t342.length co82) : Value).ownBlock) (.slice Ao16 t304.length co16) t304) ∧ Aside0 (Kd.R (Kd.int .i64) 3 wc w.heap.size (fun k_ => some k_ ≠ ((.slice Ao14 t301.length co14) : Value).ownBlock ∧ some k_ ≠ ((.slice Ao16 t304.length co16) : Value).ownBlock ∧ some k_ ≠ ((.slice Ao24 t317.length co24) : Value).ownBlock ∧ some k_ ≠ ((.slice Ao78 t339.length co78) : Value).ownBlock ∧ some k_ ≠ ((.slice Ao82 t342.length co82) : Value).ownBlock) (.slice Ao21 t314.length co21) t333) ∧ Aside0 (Kd.R (Kd.int .i64) 3 wc w.heap.size (fun k_ => some k_ ≠ ((.slice Ao14 t301.length co14) : Value).ownBlock ∧ some k_ ≠ ((.slice Ao16 t304.length co16) : Value).ownBlock ∧ some k_ ≠ ((.slice Ao21 t314.length co21) : Value).ownBlock ∧ some k_ ≠ ((.slice Ao78 t339.length co78) : Value).ownBlock ∧ some k_ ≠ ((.slice Ao82 t342.length co82) : Value).ownBlock) (.slice Ao24 t317.length co24) t334) ∧ Aside0 (Kd.R (Kd.int .i64) 3 wc w.heap.size (fun k_ => some k_ ≠ ((.slice Ao14 t301.length co14) : Value).ownBlock ∧ some k_ ≠ ((.slice Ao16 t304.length co16) : Value).ownBlock ∧ some k_ ≠ ((.slice Ao21 t314.length co21) : Value).ownBlock ∧ some k_ ≠ ((.slice Ao24 t317.length co24) : Value).ownBlock ∧ some k_ ≠ ((.slice Ao82 t342.length co82) : Value).ownBlock) (.slice Ao78 t339.length co78) t339) ∧ Aside0 (Kd.R (Kd.int .i64) 3 wc w.heap.size (fun k_ => some k_ ≠ ((.slice Ao14 t301.length co14) : Value).ownBlock ∧ some k_ ≠ ((.slice Ao16 t304.length co16) : Value).ownBlock ∧ some k_ ≠ ((.slice Ao21 t314.length co21) : Value).ownBlock ∧ some k_ ≠ ((.slice Ao24 t317.length co24) : Value).ownBlock ∧ some k_ ≠ ((.slice Ao78 t339.length co78) : Value).ownBlock) (.slice Ao82 t342.length co82) t342) ∧ Aside0 (wc.heap[gb310]? = some (.cells #[(.slice Ao14 t301.length co14), (.slice Ao16 t304.length co16), .int .i64 t307, .int .i64 t308] 28 (0, 0))) ∧ Aside0 (wc.heap[gb323]? = some (.cells #[(.slice Ao21 t314.length co21), (.slice Ao24 t317.length co24), .int .i64 t320, .int .i64 t321] 28 (0, 0))) ∧ Aside0 (wc.heap[gb348]? = some (.cells #[(.slice Ao78 t339.length co78), (.slice Ao82 t342.length co82), .int .i64 t345, .int .i64 t346] 28 (0, 0))) ∧ Aside0 (Below w.heap.size w wc))
     case first =>
      have H := HC68.out
      clear HC68
      replace H := Option.bind_eq_some_iff.mp H
      obtain ⟨t349, A830, H⟩ := H
      replace H : (if t349 = true then (laws_FnExactBestRoute.j2 kj39 t332 (t347 != t309) t333 t334 t320 t321) else (laws_FnExactBestRoute.j2 kj39 t332 true t333 t334 t320 t321)) = some r := H
      have A83 := za A830
      clear A830
      by_cases c84 : t349 = true
      ·subst c84
       have H1 : (laws_FnExactBestRoute.j2 kj39 t332 (t347 != t309) t333 t334 t320 t321) = some r := by rw [if_pos rfl] at H; exact H
       clear H
       have H := H1
       clear H1
       have H' := za H
       clear H
       have hnb85 := NB348_310.out
       have hnc85 := NB310_348.out
       have hnb86 := NB348_323.out
       have hnc86 := NB323_348.out
       have hcz87_0 : w77.cell? ⟨gb348, 0, none⟩ = some (.slice none 0 0) := (zg BK348.out 0).trans rfl
       have hcz87_1 : w77.cell? ⟨gb348, 1, none⟩ = some (.slice none 0 0) := (zg BK348.out 1).trans rfl
       have hcz87_2 : w77.cell? ⟨gb348, 2, none⟩ = some (.int .i64 0) := (zg BK348.out 2).trans rfl
       have hcz87_3 : w77.cell? ⟨gb348, 3, none⟩ = some (.int .i64 0) := (zg BK348.out 3).trans rfl
       have hfz87_0 := zh BK348.out 0
       have hfz87_1 := zh BK348.out 1
       have hfz87_2 := zh BK348.out 2
       have hfz87_3 := zh BK348.out 3
       have hnb88 := NB310_323.out
       have hnc88 := NB323_310.out
       have hcz89_0 : w77.cell? ⟨gb310, 0, none⟩ = some (.slice Ao14 t301.length co14) := (zg BK310.out 0).trans rfl
       have hcz89_1 : w77.cell? ⟨gb310, 1, none⟩ = some (.slice Ao16 t304.length co16) := (zg BK310.out 1).trans rfl
       have hcz89_2 : w77.cell? ⟨gb310, 2, none⟩ = some (.int .i64 t307) := (zg BK310.out 2).trans rfl
       have hcz89_3 : w77.cell? ⟨gb310, 3, none⟩ = some (.int .i64 t308) := (zg BK310.out 3).trans rfl
       have hfz89_0 := zh BK310.out 0
       have hfz89_1 := zh BK310.out 1
       have hfz89_2 := zh BK310.out 2
       have hfz89_3 := zh BK310.out 3
       go_wp2_with (first | ((with_reducible refine gate_callee (f := 18) rfl ?_); refine goesL_ (some 86) rfl rfl Try.func18 zG101 rfl #[.agg #[.slice Ao78 t339.length co78, .slice Ao82 t342.length co82, .int .i64 t345, .int .i64 t346], .agg #[.slice Ao14 t301.length co14, .slice Ao16 t304.length co16, .int .i64 t307, .int .i64 t308]] rfl zG68 ?_; (with_reducible refine (laws_eqRoute.calls kj39 _ _ t339 _ _ t342 t345 t346 _ _ t301 _ _ t304 t307 t308 true _ ?side1 ?side2 ?side3 ?side4 ?side5 ?side6 ?side7 ?side8 A83.out).mono ?_); (case side1 => exact zH3); (case side2 => exact (Kd.R_reads' HO341.out).2.1); (case side3 => exact zH2); (case side4 => exact (Kd.R_reads' HO344.out).2.1); (case side5 => exact zH1); (case side6 => exact (Kd.R_reads' HO_311000.out).2.1); (case side7 => exact zH0); (case side8 => exact (Kd.R_reads' HO_311001.out).2.1); rintro e w90 ⟨rfl, hb⟩; refine ⟨_, rfl, ?_⟩; have n_ := zA_ (za (zt zK132 hb)) (zA_ (za (zt zK133 hb)) (zA_ (za (zt zK134 hb)) (zA_ (za (zt zK135 hb)) (zA_ (za (zt zK143 hb)) (zA_ (za (zt zK144 hb)) (zA_ (za (zt zK145 hb)) (zA_ (za (zr (g := gb310) (o := .cells #[.slice Ao14 t301.length co14, .slice Ao16 t304.length co16, .int .i64 t307, .int .i64 t308] 28 (0, 0)) zK128 hb)) (zA_ (za (zr (g := gb323) (o := .cells #[.slice Ao21 t314.length co21, .slice Ao24 t317.length co24, .int .i64 t320, .int .i64 t321] 28 (0, 0)) zK129 hb)) (zA_ (za (zr (g := gb348) (o := .cells #[.slice Ao78 t339.length co78, .slice Ao82 t342.length co82, .int .i64 t345, .int .i64 t346] 28 (0, 0)) zK107 hb)) (za (zu zK159 hb))))))))))); clear HO_311000 HO_311001 HO_324000 HO_324001 HO338 HO341 HO344 BK310 BK323 BK348 HB; obtain ⟨HO_311000, HO_311001, HO_324000, HO_324001, HO338, HO341, HO344, BK310, BK323, BK348, HB⟩ := n_; (try clear hb); (try clear hk)))
       go_meet
       case rel => exact ⟨_, ((t347 != t309)), zG100, H', ⟨by have := HJ8.out; have := HJ39.out; first | omega | exact Nat.le_refl _⟩, ⟨zH40⟩, ⟨zH41⟩, ⟨zH42⟩, ⟨zH43⟩, ⟨zH44⟩, ⟨zH45⟩, ⟨zH79⟩, ⟨zH80⟩, ⟨by (with_reducible repeat (first | refine zc ?_ _ | refine zd ?_ | refine zb ?_ _)); exact BK348.out⟩, ⟨zH39⟩⟩
      replace c84 := Bool.eq_false_iff.mpr c84
      subst c84
      have H1 : (laws_FnExactBestRoute.j2 kj39 t332 true t333 t334 t320 t321) = some r := by rw [if_neg (show ¬ (false = true) by decide)] at H; exact H
      clear H
      have H := H1
      clear H1
      have H' := za H
      clear H
      have hnb91 := NB348_310.out
      have hnc91 := NB310_348.out
      have hnb92 := NB348_323.out
      have hnc92 := NB323_348.out
      have hcz93_0 : w77.cell? ⟨gb348, 0, none⟩ = some (.slice none 0 0) := (zg BK348.out 0).trans rfl
      have hcz93_1 : w77.cell? ⟨gb348, 1, none⟩ = some (.slice none 0 0) := (zg BK348.out 1).trans rfl
      have hcz93_2 : w77.cell? ⟨gb348, 2, none⟩ = some (.int .i64 0) := (zg BK348.out 2).trans rfl
      have hcz93_3 : w77.cell? ⟨gb348, 3, none⟩ = some (.int .i64 0) := (zg BK348.out 3).trans rfl
      have hfz93_0 := zh BK348.out 0
      have hfz93_1 := zh BK348.out 1
      have hfz93_2 := zh BK348.out 2
      have hfz93_3 := zh BK348.out 3
      have hnb94 := NB310_323.out
      have hnc94 := NB323_310.out
      have hcz95_0 : w77.cell? ⟨gb310, 0, none⟩ = some (.slice Ao14 t301.length co14) := (zg BK310.out 0).trans rfl
      have hcz95_1 : w77.cell? ⟨gb310, 1, none⟩ = some (.slice Ao16 t304.length co16) := (zg BK310.out 1).trans rfl
      have hcz95_2 : w77.cell? ⟨gb310, 2, none⟩ = some (.int .i64 t307) := (zg BK310.out 2).trans rfl
      have hcz95_3 : w77.cell? ⟨gb310, 3, none⟩ = some (.int .i64 t308) := (zg BK310.out 3).trans rfl
      have hfz95_0 := zh BK310.out 0
      have hfz95_1 := zh BK310.out 1
      have hfz95_2 := zh BK310.out 2
      have hfz95_3 := zh BK310.out 3
      go_wp2_with (first | ((with_reducible refine gate_callee (f := 18) rfl ?_); refine goesL_ (some 86) rfl rfl Try.func18 zG101 rfl #[.agg #[.slice Ao78 t339.length co78, .slice Ao82 t342.length co82, .int .i64 t345, .int .i64 t346], .agg #[.slice Ao14 t301.length co14, .slice Ao16 t304.length co16, .int .i64 t307, .int .i64 t308]] rfl zG68 ?_; (with_reducible refine (laws_eqRoute.calls kj39 _ _ t339 _ _ t342 t345 t346 _ _ t301 _ _ t304 t307 t308 false _ ?side1 ?side2 ?side3 ?side4 ?side5 ?side6 ?side7 ?side8 A83.out).mono ?_); (case side1 => exact zH3); (case side2 => exact (Kd.R_reads' HO341.out).2.1); (case side3 => exact zH2); (case side4 => exact (Kd.R_reads' HO344.out).2.1); (case side5 => exact zH1); (case side6 => exact (Kd.R_reads' HO_311000.out).2.1); (case side7 => exact zH0); (case side8 => exact (Kd.R_reads' HO_311001.out).2.1); rintro e w96 ⟨rfl, hb⟩; refine ⟨_, rfl, ?_⟩; have n_ := zA_ (za (zt zK132 hb)) (zA_ (za (zt zK133 hb)) (zA_ (za (zt zK134 hb)) (zA_ (za (zt zK135 hb)) (zA_ (za (zt zK143 hb)) (zA_ (za (zt zK144 hb)) (zA_ (za (zt zK145 hb)) (zA_ (za (zr (g := gb310) (o := .cells #[.slice Ao14 t301.length co14, .slice Ao16 t304.length co16, .int .i64 t307, .int .i64 t308] 28 (0, 0)) zK128 hb)) (zA_ (za (zr (g := gb323) (o := .cells #[.slice Ao21 t314.length co21, .slice Ao24 t317.length co24, .int .i64 t320, .int .i64 t321] 28 (0, 0)) zK129 hb)) (zA_ (za (zr (g := gb348) (o := .cells #[.slice Ao78 t339.length co78, .slice Ao82 t342.length co82, .int .i64 t345, .int .i64 t346] 28 (0, 0)) zK107 hb)) (za (zu zK159 hb))))))))))); clear HO_311000 HO_311001 HO_324000 HO_324001 HO338 HO341 HO344 BK310 BK323 BK348 HB; obtain ⟨HO_311000, HO_311001, HO_324000, HO_324001, HO338, HO341, HO344, BK310, BK323, BK348, HB⟩ := n_; (try clear hb); (try clear hk)))
      go_meet
      case rel => exact ⟨_, (true), zG100, H', ⟨by have := HJ8.out; have := HJ39.out; first | omega | exact Nat.le_refl _⟩, ⟨zH40⟩, ⟨zH41⟩, ⟨zH42⟩, ⟨zH43⟩, ⟨zH44⟩, ⟨zH45⟩, ⟨zH79⟩, ⟨zH80⟩, ⟨by (with_reducible repeat (first | refine zc ?_ _ | refine zd ?_ | refine zb ?_ _)); exact BK348.out⟩, ⟨zH39⟩⟩
     case rest =>
      clear HC68
      try clear c1
      try clear c2
      try clear p2
      try clear c3
      try clear c4
      try clear c4b0
      try clear c5
      try clear c6
      try clear c7
      try clear c8
      try clear c9
      try clear c10
      try clear c13
      try clear c16
      try clear c17
      try clear c18
      try clear c19
      try clear c20
      try clear c21
      try clear c22
      try clear c26
      try clear c27
      try clear c31
      try clear c35
      try clear c38
      try clear c45
      try clear c45b0
      try clear c47
      try clear c48
      try clear c52
      try clear c56
      try clear c59
      try clear c59b0
      try clear c60
      try clear c65
      try clear c65b0
      try clear c65b1
      try clear c69
      try clear c79
      try clear c80
      try clear c84
      try clear c85
      try clear c86
      try clear c88
      try clear c91
      try clear c92
      try clear c94
      try clear hcz15_0
      try clear hcz15_1
      try clear hcz15_2
      try clear hcz15_3
      try clear hcz23_0
      try clear hcz23_1
      try clear hcz23_2
      try clear hcz23_3
      try clear hcz28_0
      try clear hcz28_1
      try clear hcz28_2
      try clear hcz28_3
      try clear hcz29_0
      try clear hcz29_1
      try clear hcz29_2
      try clear hcz29_3
      try clear hcz32_0
      try clear hcz32_1
      try clear hcz32_2
      try clear hcz32_3
      try clear hcz33_0
      try clear hcz33_1
      try clear hcz33_2
      try clear hcz33_3
      try clear hcz49_0
      try clear hcz49_1
      try clear hcz49_2
      try clear hcz49_3
      try clear hcz50_0
      try clear hcz50_1
      try clear hcz50_2
      try clear hcz50_3
      try clear hcz53_0
      try clear hcz53_1
      try clear hcz53_2
      try clear hcz53_3
      try clear hcz54_0
      try clear hcz54_1
      try clear hcz54_2
      try clear hcz54_3
      try clear hcz61_0
      try clear hcz61_1
      try clear hcz61_2
      try clear hcz61_3
      try clear hcz63_0
      try clear hcz63_1
      try clear hcz63_2
      try clear hcz63_3
      try clear hcz70_0
      try clear hcz70_1
      try clear hcz70_2
      try clear hcz70_3
      try clear hcz72_0
      try clear hcz72_1
      try clear hcz72_2
      try clear hcz72_3
      try clear hcz81_0
      try clear hcz81_1
      try clear hcz81_2
      try clear hcz81_3
      try clear hcz87_0
      try clear hcz87_1
      try clear hcz87_2
      try clear hcz87_3
      try clear hcz89_0
      try clear hcz89_1
      try clear hcz89_2
      try clear hcz89_3
      try clear hcz93_0
      try clear hcz93_1
      try clear hcz93_2
      try clear hcz93_3
      try clear hcz95_0
      try clear hcz95_1
      try clear hcz95_2
      try clear hcz95_3
      try clear hfz15_0
      try clear hfz15_1
      try clear hfz15_2
      try clear hfz15_3
      try clear hfz23_0
      try clear hfz23_1
      try clear hfz23_2
      try clear hfz23_3
      try clear hfz28_0
      try clear hfz28_1
      try clear hfz28_2
      try clear hfz28_3
      try clear hfz29_0
      try clear hfz29_1
      try clear hfz29_2
      try clear hfz29_3
      try clear hfz32_0
      try clear hfz32_1
      try clear hfz32_2
      try clear hfz32_3
      try clear hfz33_0
      try clear hfz33_1
      try clear hfz33_2
      try clear hfz33_3
      try clear hfz49_0
      try clear hfz49_1
      try clear hfz49_2
      try clear hfz49_3
      try clear hfz50_0
      try clear hfz50_1
      try clear hfz50_2
      try clear hfz50_3
      try clear hfz53_0
      try clear hfz53_1
      try clear hfz53_2
      try clear hfz53_3
      try clear hfz54_0
      try clear hfz54_1
      try clear hfz54_2
      try clear hfz54_3
      try clear hfz61_0
      try clear hfz61_1
      try clear hfz61_2
      try clear hfz61_3
      try clear hfz63_0
      try clear hfz63_1
      try clear hfz63_2
      try clear hfz63_3
      try clear hfz70_0
      try clear hfz70_1
      try clear hfz70_2
      try clear hfz70_3
      try clear hfz72_0
      try clear hfz72_1
      try clear hfz72_2
      try clear hfz72_3
      try clear hfz81_0
      try clear hfz81_1
      try clear hfz81_2
      try clear hfz81_3
      try clear hfz87_0
      try clear hfz87_1
      try clear hfz87_2
      try clear hfz87_3
      try clear hfz89_0
      try clear hfz89_1
      try clear hfz89_2
      try clear hfz89_3
      try clear hfz93_0
      try clear hfz93_1
      try clear hfz93_2
      try clear hfz93_3
      try clear hfz95_0
      try clear hfz95_1
      try clear hfz95_2
      try clear hfz95_3
      try clear p2
      obtain ⟨kq, x92_67, rfl, HA, HJ67, HO_311000, HO_311001, HO_324000, HO_324001, HO_349000, HO_349001, BK310, BK323, BK348, HB⟩ := hcut
      have hl324000_67 := (Kd.R_reads' HO_324000.out).1
      rw [hl324000_67] at HO_324000
      (try simp only [hl324000_67])
      (try simp only [hl324000_67] at BK310)
      (try simp only [hl324000_67] at BK323)
      (try simp only [hl324000_67] at BK348)
      (try simp only [hl324000_67] at HO_311000)
      (try simp only [hl324000_67] at HO_311001)
      (try simp only [hl324000_67] at HO_324001)
      (try simp only [hl324000_67] at HO_349000)
      (try simp only [hl324000_67] at HO_349001)
      have hl324001_67 := (Kd.R_reads' HO_324001.out).1
      rw [hl324001_67] at HO_324001
      (try simp only [hl324001_67])
      (try simp only [hl324001_67] at BK310)
      (try simp only [hl324001_67] at BK323)
      (try simp only [hl324001_67] at BK348)
      (try simp only [hl324001_67] at HO_311000)
      (try simp only [hl324001_67] at HO_311001)
      (try simp only [hl324001_67] at HO_324000)
      (try simp only [hl324001_67] at HO_349000)
      (try simp only [hl324001_67] at HO_349001)
      cases kq with
      | zero => exact absurd HA.out (by simp [laws_FnExactBestRoute.j2])
      | succ kj67 =>
       have H := HA.out
       clear HA
       simp only [laws_FnExactBestRoute.j2] at H
       by_cases c97 : x92_67 = true
       ·subst c97
        have H1 : (some false) = some r := by rw [if_pos rfl] at H; exact H
        clear H
        have H := H1
        clear H1
        obtain rfl := Option.some.inj H
        go_wp2
        go_ret
        exact zH15
       replace c97 := Bool.eq_false_iff.mpr c97
       subst c97
       have H1 : ((laws_heldRoute.f kj67 t333 t334 t320 t321 1).bind fun t350 => (if t350 < 0 then (some false) else (if t350 = t332 then (some true) else (some false)))) = some r := by rw [if_neg (show ¬ (false = true) by decide)] at H; exact H
       clear H
       have H := H1
       clear H1
       replace H := Option.bind_eq_some_iff.mp H
       obtain ⟨t350, A980, H⟩ := H
       replace H : (if t350 < 0 then (some false) else (if t350 = t332 then (some true) else (some false))) = some r := H
       have A98 := za A980
       clear A980
       by_cases c99 : t350 < 0
       ·rw [if_pos c99] at H
        have c99b0 := decide_eq_true c99
        clear c99
        obtain rfl := Option.some.inj H
        have hnb100 := NB323_310.out
        have hnc100 := NB310_323.out
        have hnb101 := NB323_348.out
        have hnc101 := NB348_323.out
        have hcz102_0 : wc.cell? ⟨gb323, 0, none⟩ = some (.slice Ao21 t333.length co21) := (zg BK323.out 0).trans rfl
        have hcz102_1 : wc.cell? ⟨gb323, 1, none⟩ = some (.slice Ao24 t334.length co24) := (zg BK323.out 1).trans rfl
        have hcz102_2 : wc.cell? ⟨gb323, 2, none⟩ = some (.int .i64 t320) := (zg BK323.out 2).trans rfl
        have hcz102_3 : wc.cell? ⟨gb323, 3, none⟩ = some (.int .i64 t321) := (zg BK323.out 3).trans rfl
        have hfz102_0 := zh BK323.out 0
        have hfz102_1 := zh BK323.out 1
        have hfz102_2 := zh BK323.out 2
        have hfz102_3 := zh BK323.out 3
        go_wp2_with (first | ((with_reducible refine gate_callee (f := 22) rfl ?_); refine goesL_ (some 95) rfl rfl Try.func22 zG101 rfl #[.agg #[.slice Ao21 t333.length co21, .slice Ao24 t334.length co24, .int .i64 t320, .int .i64 t321], .int .i64 1] rfl zG68 ?_; (with_reducible refine (laws_heldRoute.calls kj67 _ _ t333 _ _ t334 t320 t321 1 t350 _ ?side1 ?side2 ?side3 ?side4 A98.out).mono ?_); (case side1 => exact zH49); (case side2 => exact zH100); (case side3 => exact zH50); (case side4 => exact zH101); rintro e w103 ⟨rfl, hb⟩; refine ⟨_, rfl, ?_⟩; have n_ := zA_ (za (zt zG92 hb)) (zA_ (za (zt zG93 hb)) (zA_ (za (zt zG94 hb)) (zA_ (za (zt zG95 hb)) (zA_ (za (zt zK194 hb)) (zA_ (za (zt zK195 hb)) (zA_ (za (zr (g := gb310) (o := .cells #[.slice Ao14 t301.length co14, .slice Ao16 t304.length co16, .int .i64 t307, .int .i64 t308] 28 (0, 0)) zG80 hb)) (zA_ (za (zr (g := gb323) (o := .cells #[.slice Ao21 t333.length co21, .slice Ao24 t334.length co24, .int .i64 t320, .int .i64 t321] 28 (0, 0)) zG81 hb)) (zA_ (za (zr (g := gb348) (o := .cells #[.slice Ao78 t339.length co78, .slice Ao82 t342.length co82, .int .i64 t345, .int .i64 t346] 28 (0, 0)) zK185 hb)) (za (zu zK159 hb)))))))))); clear HO_311000 HO_311001 HO_324000 HO_324001 HO_349000 HO_349001 BK310 BK323 BK348 HB; obtain ⟨HO_311000, HO_311001, HO_324000, HO_324001, HO_349000, HO_349001, BK310, BK323, BK348, HB⟩ := n_; (try clear hb)))
        go_ret
        exact zH15
       rw [if_neg c99] at H
       have c99b0 := decide_eq_false c99
       clear c99
       by_cases c104 : t350 = t332
       rotate_left
       ·rw [if_neg c104] at H
        have c104b0 : (t350 == t332) = false := beq_eq_false_iff_ne.mpr c104
        have c104b1 : (t350 != t332) = true := bne_iff_ne.mpr c104
        obtain rfl := Option.some.inj H
        have hnb109 := NB323_310.out
        have hnc109 := NB310_323.out
        have hnb110 := NB323_348.out
        have hnc110 := NB348_323.out
        have hcz111_0 : wc.cell? ⟨gb323, 0, none⟩ = some (.slice Ao21 t333.length co21) := (zg BK323.out 0).trans rfl
        have hcz111_1 : wc.cell? ⟨gb323, 1, none⟩ = some (.slice Ao24 t334.length co24) := (zg BK323.out 1).trans rfl
        have hcz111_2 : wc.cell? ⟨gb323, 2, none⟩ = some (.int .i64 t320) := (zg BK323.out 2).trans rfl
        have hcz111_3 : wc.cell? ⟨gb323, 3, none⟩ = some (.int .i64 t321) := (zg BK323.out 3).trans rfl
        have hfz111_0 := zh BK323.out 0
        have hfz111_1 := zh BK323.out 1
        have hfz111_2 := zh BK323.out 2
        have hfz111_3 := zh BK323.out 3
        go_wp2_with (first | ((with_reducible refine gate_callee (f := 22) rfl ?_); refine goesL_ (some 95) rfl rfl Try.func22 zG101 rfl #[.agg #[.slice Ao21 t333.length co21, .slice Ao24 t334.length co24, .int .i64 t320, .int .i64 t321], .int .i64 1] rfl zG68 ?_; (with_reducible refine (laws_heldRoute.calls kj67 _ _ t333 _ _ t334 t320 t321 1 t350 _ ?side1 ?side2 ?side3 ?side4 A98.out).mono ?_); (case side1 => exact zH49); (case side2 => exact zH100); (case side3 => exact zH50); (case side4 => exact zH101); rintro e w112 ⟨rfl, hb⟩; refine ⟨_, rfl, ?_⟩; have n_ := zA_ (za (zt zG92 hb)) (zA_ (za (zt zG93 hb)) (zA_ (za (zt zG94 hb)) (zA_ (za (zt zG95 hb)) (zA_ (za (zt zK194 hb)) (zA_ (za (zt zK195 hb)) (zA_ (za (zr (g := gb310) (o := .cells #[.slice Ao14 t301.length co14, .slice Ao16 t304.length co16, .int .i64 t307, .int .i64 t308] 28 (0, 0)) zG80 hb)) (zA_ (za (zr (g := gb323) (o := .cells #[.slice Ao21 t333.length co21, .slice Ao24 t334.length co24, .int .i64 t320, .int .i64 t321] 28 (0, 0)) zG81 hb)) (zA_ (za (zr (g := gb348) (o := .cells #[.slice Ao78 t339.length co78, .slice Ao82 t342.length co82, .int .i64 t345, .int .i64 t346] 28 (0, 0)) zK185 hb)) (za (zu zK159 hb)))))))))); clear HO_311000 HO_311001 HO_324000 HO_324001 HO_349000 HO_349001 BK310 BK323 BK348 HB; obtain ⟨HO_311000, HO_311001, HO_324000, HO_324001, HO_349000, HO_349001, BK310, BK323, BK348, HB⟩ := n_; (try clear hb)))
        go_ret
        exact zH15
       rw [if_pos c104] at H
       have c104b0 : (t350 == t332) = true := beq_iff_eq.mpr c104
       have c104b1 : (t350 != t332) = false := bne_eq_false_iff_eq.mpr c104
       clear c104
       obtain rfl := Option.some.inj H
       have hnb105 := NB323_310.out
       have hnc105 := NB310_323.out
       have hnb106 := NB323_348.out
       have hnc106 := NB348_323.out
       have hcz107_0 : wc.cell? ⟨gb323, 0, none⟩ = some (.slice Ao21 t333.length co21) := (zg BK323.out 0).trans rfl
       have hcz107_1 : wc.cell? ⟨gb323, 1, none⟩ = some (.slice Ao24 t334.length co24) := (zg BK323.out 1).trans rfl
       have hcz107_2 : wc.cell? ⟨gb323, 2, none⟩ = some (.int .i64 t320) := (zg BK323.out 2).trans rfl
       have hcz107_3 : wc.cell? ⟨gb323, 3, none⟩ = some (.int .i64 t321) := (zg BK323.out 3).trans rfl
       have hfz107_0 := zh BK323.out 0
       have hfz107_1 := zh BK323.out 1
       have hfz107_2 := zh BK323.out 2
       have hfz107_3 := zh BK323.out 3
       go_wp2_with (first | ((with_reducible refine gate_callee (f := 22) rfl ?_); refine goesL_ (some 95) rfl rfl Try.func22 zG101 rfl #[.agg #[.slice Ao21 t333.length co21, .slice Ao24 t334.length co24, .int .i64 t320, .int .i64 t321], .int .i64 1] rfl zG68 ?_; (with_reducible refine (laws_heldRoute.calls kj67 _ _ t333 _ _ t334 t320 t321 1 t350 _ ?side1 ?side2 ?side3 ?side4 A98.out).mono ?_); (case side1 => exact zH49); (case side2 => exact zH100); (case side3 => exact zH50); (case side4 => exact zH101); rintro e w108 ⟨rfl, hb⟩; refine ⟨_, rfl, ?_⟩; have n_ := zA_ (za (zt zG92 hb)) (zA_ (za (zt zG93 hb)) (zA_ (za (zt zG94 hb)) (zA_ (za (zt zG95 hb)) (zA_ (za (zt zK194 hb)) (zA_ (za (zt zK195 hb)) (zA_ (za (zr (g := gb310) (o := .cells #[.slice Ao14 t301.length co14, .slice Ao16 t304.length co16, .int .i64 t307, .int .i64 t308] 28 (0, 0)) zG80 hb)) (zA_ (za (zr (g := gb323) (o := .cells #[.slice Ao21 t333.length co21, .slice Ao24 t334.length co24, .int .i64 t320, .int .i64 t321] 28 (0, 0)) zG81 hb)) (zA_ (za (zr (g := gb348) (o := .cells #[.slice Ao78 t339.length co78, .slice Ao82 t342.length co82, .int .i64 t345, .int .i64 t346] 28 (0, 0)) zK185 hb)) (za (zu zK159 hb)))))))))); clear HO_311000 HO_311001 HO_324000 HO_324001 HO_349000 HO_349001 BK310 BK323 BK348 HB; obtain ⟨HO_311000, HO_311001, HO_324000, HO_324001, HO_349000, HO_349001, BK310, BK323, BK348, HB⟩ := n_; (try clear hb)))
       go_ret
       exact zH15
end Go.Proofs.Ytojncbpeeboooaa.T
