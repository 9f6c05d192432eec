-- squeezed
-- made by pp.py (wip/tools) out of the translation; Lean checks it
import Derived.Test.YtojncbpeeboooaaQ0
import Derived.Test.YtojncbpeeboooaaQ1
import Derived.Test.YtojncbpeeboooaaQ2
import Derived.Test.YtojncbpeeboooaaQ3
import Derived.Test.YtojncbpeeboooaaQ4
import Derived.Test.YtojncbpeeboooaaQ7
namespace Go.Proofs.Ytojncbpeeboooaa.Q
open Go.RowKit Go.Proofs.YtojncbpeeboooaaW.PrintWords Go.Proofs.YtojncbpeeboooaaW.PrintLast Go.Proofs.YtojncbpeeboooaaW.PrintMore
attribute [local go_sem] max2_int min2_int max_two min_two max_three min_three max_four min_four   -- for this text's walks alone
set_option linter.unusedVariables false
set_option linter.unusedSimpArgs false


/-! ### laws_FnRoute: function 3 -/
mutual
def laws_FnRoute.j0 : Nat → List (S37) → Int → Int → Int → Bool → List Int → List Int → Int → Int → List Int → List Int → Int → Int → Option (Bool)
 | 0, _, _, _, _, _, _, _, _, _, _, _, _, _ => none
 | k + 1, x3, x4, x7, x9, x70, x369000, x369001, x369002, x369003, x379000, x379001, x379002, x379003 => if x70 = true then (some false) else (if x7 = 8 then ((spec_BestRoute.f k x3 x4).bind fun bt380 => (some (bt380.2.2.2.2 == x7))) else ((impl_LeastEnd.f k x3 x4).bind fun bt390 => ((impl_RouteOf.f k x3 x4 x369000).bind fun bt392 => (if bt390.2 = 0 then (if bt392.2.2.2.2 = 0 then (if bt392.2.2.2.1 = x369003 then (if bt392.2.2.1 = x369002 then ((laws_sameInts.f k bt392.2.1 x369001).bind fun t402 => (if t402 = true then (if x369003 < bt390.1 then (laws_FnRoute.j1 k x3 x4 true x369000 x369001 x369002 x369003) else (if x9 = 0 then (laws_FnRoute.j1 k x3 x4 (decide (x369003 > x379003)) x369000 x369001 x369002 x369003) else (laws_FnRoute.j1 k x3 x4 false x369000 x369001 x369002 x369003))) else (laws_FnRoute.j1 k x3 x4 true x369000 x369001 x369002 x369003))) else (laws_FnRoute.j1 k x3 x4 true x369000 x369001 x369002 x369003)) else (laws_FnRoute.j1 k x3 x4 true x369000 x369001 x369002 x369003)) else (laws_FnRoute.j1 k x3 x4 true x369000 x369001 x369002 x369003)) else (laws_FnRoute.j1 k x3 x4 true x369000 x369001 x369002 x369003)))))
def laws_FnRoute.j1 : Nat → List (S37) → Int → Bool → List Int → List Int → Int → Int → Option (Bool)
 | 0, _, _, _, _, _, _, _ => none
 | k + 1, x3, x4, x140, x369000, x369001, x369002, x369003 => if x140 = true then (some false) else (laws_FnRoute.l0 k x3 x4 (([] : List (S37))) 0 x369000 x369001 x369002 x369003)
def laws_FnRoute.l0 : Nat → List (S37) → Int → List (S37) → Int → List Int → List Int → Int → Int → Option (Bool)
 | 0, _, _, _, _, _, _, _, _ => none
 | k + 1, x3, x4, x16, x17, x369000, x369001, x369002, x369003 => if x17 < (x3.length : Int) then (if 0 ≤ x17 then (if x16.length < 3518437208883 then (if x17 < (x369000.length : Int) then (if x17 < (x369001.length : Int) then (if 0 ≤ (rd x369000 x17) then (if (rd x369000 x17) < (x3.length : Int) then (if (rd x369001 x17) > ((rd_T37 x3 (rd x369000 x17)).f3) then (some false) else (laws_FnRoute.l0 k x3 x4 (x16 ++ [(⟨(rd_T37 x3 x17).f0, (rd_T37 x3 x17).f1, (rd_T37 x3 x17).f2, wrap64 (((rd_T37 x3 x17).f3) + 40), (rd_T37 x3 x17).f4⟩ : S37)]) (wrap64 (x17 + 1)) x369000 x369001 x369002 x369003)) else (none)) else (none)) else (none)) else (none)) else (none)) else (none)) else ((impl_BestRoute.f k x16 x4).bind fun bt414 => (if bt414.2.2.2.2 = 0 then (some (decide (bt414.2.2.2.1 ≤ x369003))) else (some false)))
end
def laws_FnRoute.f (k : Nat) (l0 : List Int) : Option (Bool) := if (l0.length : Int) > 1048576 then (some true) else ((spec_StopsOf.f k l0).bind fun bt352 => ((impl_BestRoute.f k bt352.1 bt352.2.1).bind fun bt359 => ((impl_RouteOf.f k bt352.1 bt352.2.1 bt352.2.2).bind fun bt369 => ((impl_StopsOK.f k bt352.1).bind fun t379 => (if t379 = true then (if bt369.2.2.2.2 = 0 then (if bt359.2.2.2.2 = 0 then (laws_FnRoute.j0 k bt352.1 bt352.2.1 bt359.2.2.2.2 bt369.2.2.2.2 (bt359.2.2.2.2 != 0) bt359.1 bt359.2.1 bt359.2.2.1 bt359.2.2.2.1 bt369.1 bt369.2.1 bt369.2.2.1 bt369.2.2.2.1) else (if bt359.2.2.2.2 = 8 then (laws_FnRoute.j0 k bt352.1 bt352.2.1 bt359.2.2.2.2 bt369.2.2.2.2 (bt359.2.2.2.2 != 0) bt359.1 bt359.2.1 bt359.2.2.1 bt359.2.2.2.1 bt369.1 bt369.2.1 bt369.2.2.1 bt369.2.2.2.1) else (laws_FnRoute.j0 k bt352.1 bt352.2.1 bt359.2.2.2.2 bt369.2.2.2.2 true bt359.1 bt359.2.1 bt359.2.2.1 bt359.2.2.2.1 bt369.1 bt369.2.1 bt369.2.2.1 bt369.2.2.2.1))) else (if bt369.2.2.2.2 = 17 then (if bt359.2.2.2.2 = 0 then (laws_FnRoute.j0 k bt352.1 bt352.2.1 bt359.2.2.2.2 bt369.2.2.2.2 false bt359.1 bt359.2.1 bt359.2.2.1 bt359.2.2.2.1 bt369.1 bt369.2.1 bt369.2.2.1 bt369.2.2.2.1) else (if bt359.2.2.2.2 = 8 then (laws_FnRoute.j0 k bt352.1 bt352.2.1 bt359.2.2.2.2 bt369.2.2.2.2 false bt359.1 bt359.2.1 bt359.2.2.1 bt359.2.2.2.1 bt369.1 bt369.2.1 bt369.2.2.1 bt369.2.2.2.1) else (laws_FnRoute.j0 k bt352.1 bt352.2.1 bt359.2.2.2.2 bt369.2.2.2.2 true bt359.1 bt359.2.1 bt359.2.2.1 bt359.2.2.2.1 bt369.1 bt369.2.1 bt369.2.2.1 bt369.2.2.2.1))) else (laws_FnRoute.j0 k bt352.1 bt352.2.1 bt359.2.2.2.2 bt369.2.2.2.2 true bt359.1 bt359.2.1 bt359.2.2.1 bt359.2.2.2.1 bt369.1 bt369.2.1 bt369.2.2.1 bt369.2.2.2.1))) else (laws_FnRoute.j0 k bt352.1 bt352.2.1 bt359.2.2.2.2 bt369.2.2.2.2 true bt359.1 bt359.2.1 bt359.2.2.1 bt359.2.2.2.1 bt369.1 bt369.2.1 bt369.2.2.1 bt369.2.2.2.1))))))
theorem laws_FnRoute.mono_l : ∀ k, (∀ y0 y1 y2 y3 y4 y5 y6 y7 y8 y9 y10 y11 y12, LeO (laws_FnRoute.j0 k y0 y1 y2 y3 y4 y5 y6 y7 y8 y9 y10 y11 y12) (laws_FnRoute.j0 (k + 1) y0 y1 y2 y3 y4 y5 y6 y7 y8 y9 y10 y11 y12)) ∧ (∀ y0 y1 y2 y3 y4 y5 y6, LeO (laws_FnRoute.j1 k y0 y1 y2 y3 y4 y5 y6) (laws_FnRoute.j1 (k + 1) y0 y1 y2 y3 y4 y5 y6)) ∧ (∀ y0 y1 y2 y3 y4 y5 y6 y7, LeO (laws_FnRoute.l0 k y0 y1 y2 y3 y4 y5 y6 y7) (laws_FnRoute.l0 (k + 1) y0 y1 y2 y3 y4 y5 y6 y7))
 | 0 => ⟨fun _ _ _ _ _ _ _ _ _ _ _ _ _ r h => by simp [laws_FnRoute.j0] at h, fun _ _ _ _ _ _ _ r h => by simp [laws_FnRoute.j1] at h, fun _ _ _ _ _ _ _ _ r h => by simp [laws_FnRoute.l0] at h⟩
 | k + 1 => by
  obtain ⟨ih0, ih1, ih2⟩ := laws_FnRoute.mono_l k
  refine ⟨?_, ?_, ?_⟩
  ·intro y0 y1 y2 y3 y4 y5 y6 y7 y8 y9 y10 y11 y12
   unfold laws_FnRoute.j0
   repeat' first
   | (with_reducible exact ih0 _ _ _ _ _ _ _ _ _ _ _ _ _)
   | (with_reducible exact ih1 _ _ _ _ _ _ _)
   | (with_reducible exact ih2 _ _ _ _ _ _ _ _)
   | (with_reducible exact impl_BestRoute.mono _ _ _)
   | (with_reducible exact impl_LeastEnd.mono _ _ _)
   | (with_reducible exact impl_RouteOf.mono _ _ _ _)
   | (with_reducible exact impl_StopsOK.mono _ _)
   | (with_reducible exact laws_sameInts.mono _ _ _)
   | (with_reducible exact spec_BestRoute.mono _ _ _)
   | (with_reducible exact spec_StopsOf.mono _ _)
   | (with_reducible exact LeO.refl _)
   | (with_reducible exact LeO.none _)
   | (with_reducible refine LeO.ite ?_ ?_)
   | (with_reducible refine LeO.bind ?_ (fun _ => ?_))
   | exact ih0 _ _ _ _ _ _ _ _ _ _ _ _ _
   | exact ih1 _ _ _ _ _ _ _
   | exact ih2 _ _ _ _ _ _ _ _
   | exact impl_BestRoute.mono _ _ _
   | exact impl_LeastEnd.mono _ _ _
   | exact impl_RouteOf.mono _ _ _ _
   | exact impl_StopsOK.mono _ _
   | exact laws_sameInts.mono _ _ _
   | exact spec_BestRoute.mono _ _ _
   | exact spec_StopsOf.mono _ _
   | exact LeO.none _
   | refine LeO.ite ?_ ?_
   | refine LeO.bind ?_ (fun _ => ?_)
  ·intro y0 y1 y2 y3 y4 y5 y6
   unfold laws_FnRoute.j1
   repeat' first
   | (with_reducible exact ih0 _ _ _ _ _ _ _ _ _ _ _ _ _)
   | (with_reducible exact ih1 _ _ _ _ _ _ _)
   | (with_reducible exact ih2 _ _ _ _ _ _ _ _)
   | (with_reducible exact impl_BestRoute.mono _ _ _)
   | (with_reducible exact impl_LeastEnd.mono _ _ _)
   | (with_reducible exact impl_RouteOf.mono _ _ _ _)
   | (with_reducible exact impl_StopsOK.mono _ _)
   | (with_reducible exact laws_sameInts.mono _ _ _)
   | (with_reducible exact spec_BestRoute.mono _ _ _)
   | (with_reducible exact spec_StopsOf.mono _ _)
   | (with_reducible exact LeO.refl _)
   | (with_reducible exact LeO.none _)
   | (with_reducible refine LeO.ite ?_ ?_)
   | (with_reducible refine LeO.bind ?_ (fun _ => ?_))
   | exact ih0 _ _ _ _ _ _ _ _ _ _ _ _ _
   | exact ih1 _ _ _ _ _ _ _
   | exact ih2 _ _ _ _ _ _ _ _
   | exact impl_BestRoute.mono _ _ _
   | exact impl_LeastEnd.mono _ _ _
   | exact impl_RouteOf.mono _ _ _ _
   | exact impl_StopsOK.mono _ _
   | exact laws_sameInts.mono _ _ _
   | exact spec_BestRoute.mono _ _ _
   | exact spec_StopsOf.mono _ _
   | exact LeO.none _
   | refine LeO.ite ?_ ?_
   | refine LeO.bind ?_ (fun _ => ?_)
  ·intro y0 y1 y2 y3 y4 y5 y6 y7
   unfold laws_FnRoute.l0
   repeat' first
   | (with_reducible exact ih0 _ _ _ _ _ _ _ _ _ _ _ _ _)
   | (with_reducible exact ih1 _ _ _ _ _ _ _)
   | (with_reducible exact ih2 _ _ _ _ _ _ _ _)
   | (with_reducible exact impl_BestRoute.mono _ _ _)
   | (with_reducible exact impl_LeastEnd.mono _ _ _)
   | (with_reducible exact impl_RouteOf.mono _ _ _ _)
   | (with_reducible exact impl_StopsOK.mono _ _)
   | (with_reducible exact laws_sameInts.mono _ _ _)
   | (with_reducible exact spec_BestRoute.mono _ _ _)
   | (with_reducible exact spec_StopsOf.mono _ _)
   | (with_reducible exact LeO.refl _)
   | (with_reducible exact LeO.none _)
   | (with_reducible refine LeO.ite ?_ ?_)
   | (with_reducible refine LeO.bind ?_ (fun _ => ?_))
   | exact ih0 _ _ _ _ _ _ _ _ _ _ _ _ _
   | exact ih1 _ _ _ _ _ _ _
   | exact ih2 _ _ _ _ _ _ _ _
   | exact impl_BestRoute.mono _ _ _
   | exact impl_LeastEnd.mono _ _ _
   | exact impl_RouteOf.mono _ _ _ _
   | exact impl_StopsOK.mono _ _
   | exact laws_sameInts.mono _ _ _
   | exact spec_BestRoute.mono _ _ _
   | exact spec_StopsOf.mono _ _
   | exact LeO.none _
   | refine LeO.ite ?_ ?_
   | refine LeO.bind ?_ (fun _ => ?_)
theorem laws_FnRoute.mono : ∀ a0 k, LeO (laws_FnRoute.f k a0) (laws_FnRoute.f (k + 1) a0) := by
 intro a0 k
 obtain ⟨ih0, ih1, ih2⟩ := laws_FnRoute.mono_l k
 unfold laws_FnRoute.f
 repeat' first
   | (with_reducible exact ih0 _ _ _ _ _ _ _ _ _ _ _ _ _)
   | (with_reducible exact ih1 _ _ _ _ _ _ _)
   | (with_reducible exact ih2 _ _ _ _ _ _ _ _)
   | (with_reducible exact impl_BestRoute.mono _ _ _)
   | (with_reducible exact impl_LeastEnd.mono _ _ _)
   | (with_reducible exact impl_RouteOf.mono _ _ _ _)
   | (with_reducible exact impl_StopsOK.mono _ _)
   | (with_reducible exact laws_sameInts.mono _ _ _)
   | (with_reducible exact spec_BestRoute.mono _ _ _)
   | (with_reducible exact spec_StopsOf.mono _ _)
   | (with_reducible exact LeO.refl _)
   | (with_reducible exact LeO.none _)
   | (with_reducible refine LeO.ite ?_ ?_)
   | (with_reducible refine LeO.bind ?_ (fun _ => ?_))
   | exact ih0 _ _ _ _ _ _ _ _ _ _ _ _ _
   | exact ih1 _ _ _ _ _ _ _
   | exact ih2 _ _ _ _ _ _ _ _
   | exact impl_BestRoute.mono _ _ _
   | exact impl_LeastEnd.mono _ _ _
   | exact impl_RouteOf.mono _ _ _ _
   | exact impl_StopsOK.mono _ _
   | exact laws_sameInts.mono _ _ _
   | exact spec_BestRoute.mono _ _ _
   | exact spec_StopsOf.mono _ _
   | exact LeO.none _
   | refine LeO.ite ?_ ?_
   | refine LeO.bind ?_ (fun _ => ?_)
set_option maxHeartbeats 64000000 in
set_option maxRecDepth 100000 in
theorem laws_FnRoute.calls (k : Nat) (A0 : Option Addr) (c0 : Nat) (l0 : List Int) (r : Bool) (w : World) (hr0 : Kd.C (Kd.int .u8) w A0 l0.length l0) (hc0 : l0.length ≤ c0) (h : laws_FnRoute.f k l0 = some r) :
  Calls Try.prog 3 #[.slice A0 l0.length c0] w fun e w' => e = .returned (.bool r) ∧ Below w.heap.size w w' := by
 have hu28 := Try.underlying28
 have hu37 := Try.underlying37
 obtain ⟨HR0, HC0, HB⟩ := zD3 hr0 hc0 (Below.refl w.heap.size w)
 clear hr0 hc0
 have H : (if (l0.length : Int) > 1048576 then (some true) else ((spec_StopsOf.f k l0).bind fun bt352 => ((impl_BestRoute.f k bt352.1 bt352.2.1).bind fun bt359 => ((impl_RouteOf.f k bt352.1 bt352.2.1 bt352.2.2).bind fun bt369 => ((impl_StopsOK.f k bt352.1).bind fun t379 => (if t379 = true then (if bt369.2.2.2.2 = 0 then (if bt359.2.2.2.2 = 0 then (laws_FnRoute.j0 k bt352.1 bt352.2.1 bt359.2.2.2.2 bt369.2.2.2.2 (bt359.2.2.2.2 != 0) bt359.1 bt359.2.1 bt359.2.2.1 bt359.2.2.2.1 bt369.1 bt369.2.1 bt369.2.2.1 bt369.2.2.2.1) else (if bt359.2.2.2.2 = 8 then (laws_FnRoute.j0 k bt352.1 bt352.2.1 bt359.2.2.2.2 bt369.2.2.2.2 (bt359.2.2.2.2 != 0) bt359.1 bt359.2.1 bt359.2.2.1 bt359.2.2.2.1 bt369.1 bt369.2.1 bt369.2.2.1 bt369.2.2.2.1) else (laws_FnRoute.j0 k bt352.1 bt352.2.1 bt359.2.2.2.2 bt369.2.2.2.2 true bt359.1 bt359.2.1 bt359.2.2.1 bt359.2.2.2.1 bt369.1 bt369.2.1 bt369.2.2.1 bt369.2.2.2.1))) else (if bt369.2.2.2.2 = 17 then (if bt359.2.2.2.2 = 0 then (laws_FnRoute.j0 k bt352.1 bt352.2.1 bt359.2.2.2.2 bt369.2.2.2.2 false bt359.1 bt359.2.1 bt359.2.2.1 bt359.2.2.2.1 bt369.1 bt369.2.1 bt369.2.2.1 bt369.2.2.2.1) else (if bt359.2.2.2.2 = 8 then (laws_FnRoute.j0 k bt352.1 bt352.2.1 bt359.2.2.2.2 bt369.2.2.2.2 false bt359.1 bt359.2.1 bt359.2.2.1 bt359.2.2.2.1 bt369.1 bt369.2.1 bt369.2.2.1 bt369.2.2.2.1) else (laws_FnRoute.j0 k bt352.1 bt352.2.1 bt359.2.2.2.2 bt369.2.2.2.2 true bt359.1 bt359.2.1 bt359.2.2.1 bt359.2.2.2.1 bt369.1 bt369.2.1 bt369.2.2.1 bt369.2.2.2.1))) else (laws_FnRoute.j0 k bt352.1 bt352.2.1 bt359.2.2.2.2 bt369.2.2.2.2 true bt359.1 bt359.2.1 bt359.2.2.1 bt359.2.2.2.1 bt369.1 bt369.2.1 bt369.2.2.1 bt369.2.2.2.1))) else (laws_FnRoute.j0 k bt352.1 bt352.2.1 bt359.2.2.2.2 bt369.2.2.2.2 true bt359.1 bt359.2.1 bt359.2.2.1 bt359.2.2.2.1 bt369.1 bt369.2.1 bt369.2.2.1 bt369.2.2.2.1))))))) = some r := h
 clear h
 by_cases c2 : (l0.length : Int) > 1048576
 ·rw [if_pos c2] at H
  have c2b0 : decide (1048576 < (l0.length : Int)) = true := decide_eq_true c2
  have c2b1 : decide (1048576 < l0.length) = true := decide_eq_true (by omega)
  clear c2
  obtain rfl := Option.some.inj H
  go_enter Try.func3, Try.ntmps3
  go_wp2
  repeat (go_quiet (fail); try go_wp2)
  go_ret
  exact zH36
 rw [if_neg c2] at H
 have c2b0 : decide (1048576 < (l0.length : Int)) = false := decide_eq_false c2
 have c2b1 : decide (1048576 < l0.length) = false := decide_eq_false (by omega)
 clear c2
 replace H := Option.bind_eq_some_iff.mp H
 obtain ⟨⟨t352, t353, t354⟩, A30, H⟩ := H
 replace H : ((impl_BestRoute.f k t352 t353).bind fun bt359 => ((impl_RouteOf.f k t352 t353 t354).bind fun bt369 => ((impl_StopsOK.f k t352).bind fun t379 => (if t379 = true then (if bt369.2.2.2.2 = 0 then (if bt359.2.2.2.2 = 0 then (laws_FnRoute.j0 k t352 t353 bt359.2.2.2.2 bt369.2.2.2.2 (bt359.2.2.2.2 != 0) bt359.1 bt359.2.1 bt359.2.2.1 bt359.2.2.2.1 bt369.1 bt369.2.1 bt369.2.2.1 bt369.2.2.2.1) else (if bt359.2.2.2.2 = 8 then (laws_FnRoute.j0 k t352 t353 bt359.2.2.2.2 bt369.2.2.2.2 (bt359.2.2.2.2 != 0) bt359.1 bt359.2.1 bt359.2.2.1 bt359.2.2.2.1 bt369.1 bt369.2.1 bt369.2.2.1 bt369.2.2.2.1) else (laws_FnRoute.j0 k t352 t353 bt359.2.2.2.2 bt369.2.2.2.2 true bt359.1 bt359.2.1 bt359.2.2.1 bt359.2.2.2.1 bt369.1 bt369.2.1 bt369.2.2.1 bt369.2.2.2.1))) else (if bt369.2.2.2.2 = 17 then (if bt359.2.2.2.2 = 0 then (laws_FnRoute.j0 k t352 t353 bt359.2.2.2.2 bt369.2.2.2.2 false bt359.1 bt359.2.1 bt359.2.2.1 bt359.2.2.2.1 bt369.1 bt369.2.1 bt369.2.2.1 bt369.2.2.2.1) else (if bt359.2.2.2.2 = 8 then (laws_FnRoute.j0 k t352 t353 bt359.2.2.2.2 bt369.2.2.2.2 false bt359.1 bt359.2.1 bt359.2.2.1 bt359.2.2.2.1 bt369.1 bt369.2.1 bt369.2.2.1 bt369.2.2.2.1) else (laws_FnRoute.j0 k t352 t353 bt359.2.2.2.2 bt369.2.2.2.2 true bt359.1 bt359.2.1 bt359.2.2.1 bt359.2.2.2.1 bt369.1 bt369.2.1 bt369.2.2.1 bt369.2.2.2.1))) else (laws_FnRoute.j0 k t352 t353 bt359.2.2.2.2 bt369.2.2.2.2 true bt359.1 bt359.2.1 bt359.2.2.1 bt359.2.2.2.1 bt369.1 bt369.2.1 bt369.2.2.1 bt369.2.2.2.1))) else (laws_FnRoute.j0 k t352 t353 bt359.2.2.2.2 bt369.2.2.2.2 true bt359.1 bt359.2.1 bt359.2.2.1 bt359.2.2.2.1 bt369.1 bt369.2.1 bt369.2.2.1 bt369.2.2.2.1))))) = some r := H
 have A3 := za A30
 clear A30
 replace H := Option.bind_eq_some_iff.mp H
 obtain ⟨⟨t359, t362, t365, t366, t367⟩, A40, H⟩ := H
 replace H : ((impl_RouteOf.f k t352 t353 t354).bind fun bt369 => ((impl_StopsOK.f k t352).bind fun t379 => (if t379 = true then (if bt369.2.2.2.2 = 0 then (if t367 = 0 then (laws_FnRoute.j0 k t352 t353 t367 bt369.2.2.2.2 (t367 != 0) t359 t362 t365 t366 bt369.1 bt369.2.1 bt369.2.2.1 bt369.2.2.2.1) else (if t367 = 8 then (laws_FnRoute.j0 k t352 t353 t367 bt369.2.2.2.2 (t367 != 0) t359 t362 t365 t366 bt369.1 bt369.2.1 bt369.2.2.1 bt369.2.2.2.1) else (laws_FnRoute.j0 k t352 t353 t367 bt369.2.2.2.2 true t359 t362 t365 t366 bt369.1 bt369.2.1 bt369.2.2.1 bt369.2.2.2.1))) else (if bt369.2.2.2.2 = 17 then (if t367 = 0 then (laws_FnRoute.j0 k t352 t353 t367 bt369.2.2.2.2 false t359 t362 t365 t366 bt369.1 bt369.2.1 bt369.2.2.1 bt369.2.2.2.1) else (if t367 = 8 then (laws_FnRoute.j0 k t352 t353 t367 bt369.2.2.2.2 false t359 t362 t365 t366 bt369.1 bt369.2.1 bt369.2.2.1 bt369.2.2.2.1) else (laws_FnRoute.j0 k t352 t353 t367 bt369.2.2.2.2 true t359 t362 t365 t366 bt369.1 bt369.2.1 bt369.2.2.1 bt369.2.2.2.1))) else (laws_FnRoute.j0 k t352 t353 t367 bt369.2.2.2.2 true t359 t362 t365 t366 bt369.1 bt369.2.1 bt369.2.2.1 bt369.2.2.2.1))) else (laws_FnRoute.j0 k t352 t353 t367 bt369.2.2.2.2 true t359 t362 t365 t366 bt369.1 bt369.2.1 bt369.2.2.1 bt369.2.2.2.1)))) = some r := H
 have A4 := za A40
 clear A40
 replace H := Option.bind_eq_some_iff.mp H
 obtain ⟨⟨t369, t372, t375, t376, t377⟩, A50, H⟩ := H
 replace H : ((impl_StopsOK.f k t352).bind fun t379 => (if t379 = true then (if t377 = 0 then (if t367 = 0 then (laws_FnRoute.j0 k t352 t353 t367 t377 (t367 != 0) t359 t362 t365 t366 t369 t372 t375 t376) else (if t367 = 8 then (laws_FnRoute.j0 k t352 t353 t367 t377 (t367 != 0) t359 t362 t365 t366 t369 t372 t375 t376) else (laws_FnRoute.j0 k t352 t353 t367 t377 true t359 t362 t365 t366 t369 t372 t375 t376))) else (if t377 = 17 then (if t367 = 0 then (laws_FnRoute.j0 k t352 t353 t367 t377 false t359 t362 t365 t366 t369 t372 t375 t376) else (if t367 = 8 then (laws_FnRoute.j0 k t352 t353 t367 t377 false t359 t362 t365 t366 t369 t372 t375 t376) else (laws_FnRoute.j0 k t352 t353 t367 t377 true t359 t362 t365 t366 t369 t372 t375 t376))) else (laws_FnRoute.j0 k t352 t353 t367 t377 true t359 t362 t365 t366 t369 t372 t375 t376))) else (laws_FnRoute.j0 k t352 t353 t367 t377 true t359 t362 t365 t366 t369 t372 t375 t376))) = some r := H
 obtain ⟨A5, HC6⟩ := zD2 A50 H
 clear A50 H
 go_enter Try.func3, Try.ntmps3
 go_upto_region 6 with (first | (go_at_call 9; (with_reducible refine (spec_StopsOf.calls k _ _ l0 t352 t353 t354 _ ?side1 ?side2 A3.out).mono ?_); (case side1 => exact zH68); (case side2 => exact zH110); rintro e w7 ⟨v355, v357, rfl, ho0, ho1, hb⟩; have n_ := zA_ (za (zae ho0 (zt zG95))) (zA_ (za (zae ho1 (zt zG95))) (za (zv zG95 hb))); clear HB; obtain ⟨HO356, HO358, HB⟩ := n_; (try clear hb); (try clear hk); (try clear ho0); (try clear ho1); obtain ⟨Ao8, co8, eo8⟩ := zad HO356.out; subst eo8) | (go_at_call 10; (with_reducible refine (impl_BestRoute.calls k _ _ t352 t353 t359 t362 t365 t366 t367 _ ?side1 ?side2 A4.out).mono ?_); (case side1 => exact zH59); (case side2 => exact zH108); rintro e w9 ⟨v360, v363, rfl, ho0, ho1, hb⟩; have n_ := zA_ (za (zp zK208 hb)) (zA_ (za (zo (zaa (zaa (zaf zG121 hb) (zy ho0)) (zy ho1)) (fun _ h_ => h_.1))) (zA_ (za (zae (zz ho0 (zab zG121)) (zt zG95))) (zA_ (za (zae (zz ho1 (zab zG121)) (zt zG95))) (za (zv zG95 hb))))); clear HO356 HO358 HB; obtain ⟨HO356, HO358, HO361, HO364, HB⟩ := n_; (try clear hb); (try clear hk); (try clear ho0); (try clear ho1)) | ((with_reducible refine gate_dst (N := 6) rfl ?_); refine box_event ?hg (N := 6) ?hd (cs := #[.slice none 0 0, .slice none 0 0, .int .i64 0, .int .i64 0]) (t := 28) ?hr ?_; (case hd => rfl); (case hg => rfl); (case hr => exact zH103); intro gb368 hg w10 hbox hb; have n_ := zA_ (za (zp zK208 hb)) (zA_ (za (zp zG121 hb)) (zA_ (za (zp zK209 hb)) (zA_ (za (zp zK210 hb)) (zA_ (za (zv zG95 hb)) (zA_ (za (hbox)) (zA_ (zN1 w.heap.size hg (zt zG95)) (zN1 w.heap.size hg (zt zG95)))))))); clear HO356 HO358 HO361 HO364 HB; obtain ⟨HO356, HO358, HO361, HO364, HB, BK368, GW368, GE368⟩ := n_; clear hb hbox hg; obtain ⟨Ao11, co11, eo11⟩ := zad HO361.out; subst eo11; obtain ⟨hcz12_0, hcz12_1, hcz12_2, hcz12_3, hfz12_0, hfz12_1, hfz12_2, hfz12_3⟩ := zB4 BK368.out; obtain ⟨Ao13, co13, eo13⟩ := zad HO364.out; subst eo13; obtain ⟨Ao14, co14, eo14⟩ := zad HO358.out; subst eo14) | (go_at_call 11; (with_reducible refine (impl_RouteOf.calls k _ _ t352 t353 _ _ t354 t369 t372 t375 t376 t377 _ ?side1 ?side2 ?side3 ?side4 A5.out).mono ?_); (case side1 => exact zH8); (case side2 => exact zH108); (case side3 => exact zH25); (case side4 => exact (zw HO358.out).2.1); rintro e w15 ⟨v370, v373, rfl, ho0, ho1, hb⟩; have n_ := zA_ (za (zp zK148 hb)) (zA_ (za (zo (zaa (zaa (zaf zG68 hb) (zy ho0)) (zy ho1)) (fun _ h_ => h_.1))) (zA_ (za (zo (zaa (zaa (zaf zK149 hb) (zy ho0)) (zy ho1)) (fun _ h_ => h_.1))) (zA_ (za (zo (zaa (zaa (zaf zK150 hb) (zy ho0)) (zy ho1)) (fun _ h_ => h_.1))) (zA_ (za (zae (zz (zz (zz ho0 (zab zG68)) (zab zK149)) (zab zK150)) (zt zG93))) (zA_ (za (zae (zz (zz (zz ho1 (zab zG68)) (zab zK149)) (zab zK150)) (zt zG93))) (zA_ (za (zs (g := gb368) (o := .cells #[.slice Ao11 t359.length co11, .slice Ao13 t362.length co13, .int .i64 t365, .int .i64 t366] 28 (0, 0)) zK114 hb)) (za (zv zG93 hb)))))))); clear HO356 HO358 HO361 HO364 BK368 HB; obtain ⟨HO356, HO358, HO361, HO364, HO371, HO374, BK368, HB⟩ := n_; (try clear hb); (try clear hk); (try clear ho0); (try clear ho1)) | ((with_reducible refine gate_dst (N := 8) rfl ?_); refine box_event ?hg (N := 8) ?hd (cs := #[.slice none 0 0, .slice none 0 0, .int .i64 0, .int .i64 0]) (t := 28) ?hr ?_; (case hd => rfl); (case hg => rfl); (case hr => exact zH103); intro gb378 hg w16 hbox hb; have n_ := zA_ (za (zp zK208 hb)) (zA_ (za (zp zG121 hb)) (zA_ (za (zp zK209 hb)) (zA_ (za (zp zK210 hb)) (zA_ (za (zp zK211 hb)) (zA_ (za (zp zK212 hb)) (zA_ (za (zs (g := gb368) (o := .cells #[.slice Ao11 t359.length co11, .slice Ao13 t362.length co13, .int .i64 t365, .int .i64 t366] 28 (0, 0)) zG103 hb)) (zA_ (za (zv zG93 hb)) (zA_ (za (hbox)) (zA_ (zN1 w.heap.size hg (zt zG93)) (zA_ (zN1 w.heap.size hg (zt zG93)) (zN2 hg (zac (g := gb368) (o := .cells #[.slice Ao11 t359.length co11, .slice Ao13 t362.length co13, .int .i64 t365, .int .i64 t366] 28 (0, 0)) zG103)))))))))))); clear HO356 HO358 HO361 HO364 HO371 HO374 BK368 HB; obtain ⟨HO356, HO358, HO361, HO364, HO371, HO374, BK368, HB, BK378, GW378, GE378, NB368_378, NB378_368⟩ := n_; clear hb hbox hg; obtain ⟨Ao17, co17, eo17⟩ := zad HO371.out; subst eo17; have hnb18 := NB378_368.out; have hnc18 := NB368_378.out; obtain ⟨hcz19_0, hcz19_1, hcz19_2, hcz19_3, hfz19_0, hfz19_1, hfz19_2, hfz19_3⟩ := zB4 BK378.out; obtain ⟨Ao20, co20, eo20⟩ := zad HO374.out; subst eo20))
 repeat (go_quiet (first | (go_at_call 9; (with_reducible refine (spec_StopsOf.calls k _ _ l0 t352 t353 t354 _ ?side1 ?side2 A3.out).mono ?_); (case side1 => exact zH68); (case side2 => exact zH110); rintro e w7 ⟨v355, v357, rfl, ho0, ho1, hb⟩; have n_ := zA_ (za (zae ho0 (zt zG95))) (zA_ (za (zae ho1 (zt zG95))) (za (zv zG95 hb))); clear HB; obtain ⟨HO356, HO358, HB⟩ := n_; (try clear hb); (try clear hk); (try clear ho0); (try clear ho1); obtain ⟨Ao8, co8, eo8⟩ := zad HO356.out; subst eo8) | (go_at_call 10; (with_reducible refine (impl_BestRoute.calls k _ _ t352 t353 t359 t362 t365 t366 t367 _ ?side1 ?side2 A4.out).mono ?_); (case side1 => exact zH59); (case side2 => exact zH108); rintro e w9 ⟨v360, v363, rfl, ho0, ho1, hb⟩; have n_ := zA_ (za (zp zK208 hb)) (zA_ (za (zo (zaa (zaa (zaf zG121 hb) (zy ho0)) (zy ho1)) (fun _ h_ => h_.1))) (zA_ (za (zae (zz ho0 (zab zG121)) (zt zG95))) (zA_ (za (zae (zz ho1 (zab zG121)) (zt zG95))) (za (zv zG95 hb))))); clear HO356 HO358 HB; obtain ⟨HO356, HO358, HO361, HO364, HB⟩ := n_; (try clear hb); (try clear hk); (try clear ho0); (try clear ho1)) | ((with_reducible refine gate_dst (N := 6) rfl ?_); refine box_event ?hg (N := 6) ?hd (cs := #[.slice none 0 0, .slice none 0 0, .int .i64 0, .int .i64 0]) (t := 28) ?hr ?_; (case hd => rfl); (case hg => rfl); (case hr => exact zH103); intro gb368 hg w10 hbox hb; have n_ := zA_ (za (zp zK208 hb)) (zA_ (za (zp zG121 hb)) (zA_ (za (zp zK209 hb)) (zA_ (za (zp zK210 hb)) (zA_ (za (zv zG95 hb)) (zA_ (za (hbox)) (zA_ (zN1 w.heap.size hg (zt zG95)) (zN1 w.heap.size hg (zt zG95)))))))); clear HO356 HO358 HO361 HO364 HB; obtain ⟨HO356, HO358, HO361, HO364, HB, BK368, GW368, GE368⟩ := n_; clear hb hbox hg; obtain ⟨Ao11, co11, eo11⟩ := zad HO361.out; subst eo11; obtain ⟨hcz12_0, hcz12_1, hcz12_2, hcz12_3, hfz12_0, hfz12_1, hfz12_2, hfz12_3⟩ := zB4 BK368.out; obtain ⟨Ao13, co13, eo13⟩ := zad HO364.out; subst eo13; obtain ⟨Ao14, co14, eo14⟩ := zad HO358.out; subst eo14) | (go_at_call 11; (with_reducible refine (impl_RouteOf.calls k _ _ t352 t353 _ _ t354 t369 t372 t375 t376 t377 _ ?side1 ?side2 ?side3 ?side4 A5.out).mono ?_); (case side1 => exact zH8); (case side2 => exact zH108); (case side3 => exact zH25); (case side4 => exact (zw HO358.out).2.1); rintro e w15 ⟨v370, v373, rfl, ho0, ho1, hb⟩; have n_ := zA_ (za (zp zK148 hb)) (zA_ (za (zo (zaa (zaa (zaf zG68 hb) (zy ho0)) (zy ho1)) (fun _ h_ => h_.1))) (zA_ (za (zo (zaa (zaa (zaf zK149 hb) (zy ho0)) (zy ho1)) (fun _ h_ => h_.1))) (zA_ (za (zo (zaa (zaa (zaf zK150 hb) (zy ho0)) (zy ho1)) (fun _ h_ => h_.1))) (zA_ (za (zae (zz (zz (zz ho0 (zab zG68)) (zab zK149)) (zab zK150)) (zt zG93))) (zA_ (za (zae (zz (zz (zz ho1 (zab zG68)) (zab zK149)) (zab zK150)) (zt zG93))) (zA_ (za (zs (g := gb368) (o := .cells #[.slice Ao11 t359.length co11, .slice Ao13 t362.length co13, .int .i64 t365, .int .i64 t366] 28 (0, 0)) zK114 hb)) (za (zv zG93 hb)))))))); clear HO356 HO358 HO361 HO364 BK368 HB; obtain ⟨HO356, HO358, HO361, HO364, HO371, HO374, BK368, HB⟩ := n_; (try clear hb); (try clear hk); (try clear ho0); (try clear ho1)) | ((with_reducible refine gate_dst (N := 8) rfl ?_); refine box_event ?hg (N := 8) ?hd (cs := #[.slice none 0 0, .slice none 0 0, .int .i64 0, .int .i64 0]) (t := 28) ?hr ?_; (case hd => rfl); (case hg => rfl); (case hr => exact zH103); intro gb378 hg w16 hbox hb; have n_ := zA_ (za (zp zK208 hb)) (zA_ (za (zp zG121 hb)) (zA_ (za (zp zK209 hb)) (zA_ (za (zp zK210 hb)) (zA_ (za (zp zK211 hb)) (zA_ (za (zp zK212 hb)) (zA_ (za (zs (g := gb368) (o := .cells #[.slice Ao11 t359.length co11, .slice Ao13 t362.length co13, .int .i64 t365, .int .i64 t366] 28 (0, 0)) zG103 hb)) (zA_ (za (zv zG93 hb)) (zA_ (za (hbox)) (zA_ (zN1 w.heap.size hg (zt zG93)) (zA_ (zN1 w.heap.size hg (zt zG93)) (zN2 hg (zac (g := gb368) (o := .cells #[.slice Ao11 t359.length co11, .slice Ao13 t362.length co13, .int .i64 t365, .int .i64 t366] 28 (0, 0)) zG103)))))))))))); clear HO356 HO358 HO361 HO364 HO371 HO374 BK368 HB; obtain ⟨HO356, HO358, HO361, HO364, HO371, HO374, BK368, HB, BK378, GW378, GE378, NB368_378, NB378_368⟩ := n_; clear hb hbox hg; obtain ⟨Ao17, co17, eo17⟩ := zad HO371.out; subst eo17; have hnb18 := NB378_368.out; have hnc18 := NB368_378.out; obtain ⟨hcz19_0, hcz19_1, hcz19_2, hcz19_3, hfz19_0, hfz19_1, hfz19_2, hfz19_3⟩ := zB4 BK378.out; obtain ⟨Ao20, co20, eo20⟩ := zad HO374.out; subst eo20)); go_upto_region 6 with (first | (go_at_call 9; (with_reducible refine (spec_StopsOf.calls k _ _ l0 t352 t353 t354 _ ?side1 ?side2 A3.out).mono ?_); (case side1 => exact zH68); (case side2 => exact zH110); rintro e w7 ⟨v355, v357, rfl, ho0, ho1, hb⟩; have n_ := zA_ (za (zae ho0 (zt zG95))) (zA_ (za (zae ho1 (zt zG95))) (za (zv zG95 hb))); clear HB; obtain ⟨HO356, HO358, HB⟩ := n_; (try clear hb); (try clear hk); (try clear ho0); (try clear ho1); obtain ⟨Ao8, co8, eo8⟩ := zad HO356.out; subst eo8) | (go_at_call 10; (with_reducible refine (impl_BestRoute.calls k _ _ t352 t353 t359 t362 t365 t366 t367 _ ?side1 ?side2 A4.out).mono ?_); (case side1 => exact zH59); (case side2 => exact zH108); rintro e w9 ⟨v360, v363, rfl, ho0, ho1, hb⟩; have n_ := zA_ (za (zp zK208 hb)) (zA_ (za (zo (zaa (zaa (zaf zG121 hb) (zy ho0)) (zy ho1)) (fun _ h_ => h_.1))) (zA_ (za (zae (zz ho0 (zab zG121)) (zt zG95))) (zA_ (za (zae (zz ho1 (zab zG121)) (zt zG95))) (za (zv zG95 hb))))); clear HO356 HO358 HB; obtain ⟨HO356, HO358, HO361, HO364, HB⟩ := n_; (try clear hb); (try clear hk); (try clear ho0); (try clear ho1)) | ((with_reducible refine gate_dst (N := 6) rfl ?_); refine box_event ?hg (N := 6) ?hd (cs := #[.slice none 0 0, .slice none 0 0, .int .i64 0, .int .i64 0]) (t := 28) ?hr ?_; (case hd => rfl); (case hg => rfl); (case hr => exact zH103); intro gb368 hg w10 hbox hb; have n_ := zA_ (za (zp zK208 hb)) (zA_ (za (zp zG121 hb)) (zA_ (za (zp zK209 hb)) (zA_ (za (zp zK210 hb)) (zA_ (za (zv zG95 hb)) (zA_ (za (hbox)) (zA_ (zN1 w.heap.size hg (zt zG95)) (zN1 w.heap.size hg (zt zG95)))))))); clear HO356 HO358 HO361 HO364 HB; obtain ⟨HO356, HO358, HO361, HO364, HB, BK368, GW368, GE368⟩ := n_; clear hb hbox hg; obtain ⟨Ao11, co11, eo11⟩ := zad HO361.out; subst eo11; obtain ⟨hcz12_0, hcz12_1, hcz12_2, hcz12_3, hfz12_0, hfz12_1, hfz12_2, hfz12_3⟩ := zB4 BK368.out; obtain ⟨Ao13, co13, eo13⟩ := zad HO364.out; subst eo13; obtain ⟨Ao14, co14, eo14⟩ := zad HO358.out; subst eo14) | (go_at_call 11; (with_reducible refine (impl_RouteOf.calls k _ _ t352 t353 _ _ t354 t369 t372 t375 t376 t377 _ ?side1 ?side2 ?side3 ?side4 A5.out).mono ?_); (case side1 => exact zH8); (case side2 => exact zH108); (case side3 => exact zH25); (case side4 => exact (zw HO358.out).2.1); rintro e w15 ⟨v370, v373, rfl, ho0, ho1, hb⟩; have n_ := zA_ (za (zp zK148 hb)) (zA_ (za (zo (zaa (zaa (zaf zG68 hb) (zy ho0)) (zy ho1)) (fun _ h_ => h_.1))) (zA_ (za (zo (zaa (zaa (zaf zK149 hb) (zy ho0)) (zy ho1)) (fun _ h_ => h_.1))) (zA_ (za (zo (zaa (zaa (zaf zK150 hb) (zy ho0)) (zy ho1)) (fun _ h_ => h_.1))) (zA_ (za (zae (zz (zz (zz ho0 (zab zG68)) (zab zK149)) (zab zK150)) (zt zG93))) (zA_ (za (zae (zz (zz (zz ho1 (zab zG68)) (zab zK149)) (zab zK150)) (zt zG93))) (zA_ (za (zs (g := gb368) (o := .cells #[.slice Ao11 t359.length co11, .slice Ao13 t362.length co13, .int .i64 t365, .int .i64 t366] 28 (0, 0)) zK114 hb)) (za (zv zG93 hb)))))))); clear HO356 HO358 HO361 HO364 BK368 HB; obtain ⟨HO356, HO358, HO361, HO364, HO371, HO374, BK368, HB⟩ := n_; (try clear hb); (try clear hk); (try clear ho0); (try clear ho1)) | ((with_reducible refine gate_dst (N := 8) rfl ?_); refine box_event ?hg (N := 8) ?hd (cs := #[.slice none 0 0, .slice none 0 0, .int .i64 0, .int .i64 0]) (t := 28) ?hr ?_; (case hd => rfl); (case hg => rfl); (case hr => exact zH103); intro gb378 hg w16 hbox hb; have n_ := zA_ (za (zp zK208 hb)) (zA_ (za (zp zG121 hb)) (zA_ (za (zp zK209 hb)) (zA_ (za (zp zK210 hb)) (zA_ (za (zp zK211 hb)) (zA_ (za (zp zK212 hb)) (zA_ (za (zs (g := gb368) (o := .cells #[.slice Ao11 t359.length co11, .slice Ao13 t362.length co13, .int .i64 t365, .int .i64 t366] 28 (0, 0)) zG103 hb)) (zA_ (za (zv zG93 hb)) (zA_ (za (hbox)) (zA_ (zN1 w.heap.size hg (zt zG93)) (zA_ (zN1 w.heap.size hg (zt zG93)) (zN2 hg (zac (g := gb368) (o := .cells #[.slice Ao11 t359.length co11, .slice Ao13 t362.length co13, .int .i64 t365, .int .i64 t366] 28 (0, 0)) zG103)))))))))))); clear HO356 HO358 HO361 HO364 HO371 HO374 BK368 HB; obtain ⟨HO356, HO358, HO361, HO364, HO371, HO374, BK368, HB, BK378, GW378, GE378, NB368_378, NB378_368⟩ := n_; clear hb hbox hg; obtain ⟨Ao17, co17, eo17⟩ := zad HO371.out; subst eo17; have hnb18 := NB378_368.out; have hnc18 := NB368_378.out; obtain ⟨hcz19_0, hcz19_1, hcz19_2, hcz19_3, hfz19_0, hfz19_1, hfz19_2, hfz19_3⟩ := zB4 BK378.out; obtain ⟨Ao20, co20, eo20⟩ := zad HO374.out; subst eo20)))
 (try simp only [Act.put, List.setIfInBounds_toArray, List.set_cons_zero, List.set_cons_succ])
 go_cut [70] (fun v70 wc => ∃ (kq : Nat) (x70_5 : Bool), v70 = .bool x70_5 ∧ Aside0 (laws_FnRoute.j0 kq t352 t353 t367 t377 x70_5 t359 t362 t365 t366 t369 t372 t375 t376 = some r) ∧ Aside0 (kq ≤ k) ∧ Aside0 (Kd.R k37 37 wc w.heap.size (fun _ => True) (.slice Ao8 t352.length co8) t352) ∧ Aside0 (Kd.R (Kd.int .i64) 3 wc w.heap.size (fun k_ => some k_ ≠ ((.slice Ao13 t362.length co13) : Value).ownBlock ∧ some k_ ≠ ((.slice Ao17 t369.length co17) : Value).ownBlock ∧ some k_ ≠ ((.slice Ao20 t372.length co20) : Value).ownBlock) (.slice Ao11 t359.length co11) t359) ∧ Aside0 (Kd.R (Kd.int .i64) 3 wc w.heap.size (fun k_ => some k_ ≠ ((.slice Ao11 t359.length co11) : Value).ownBlock ∧ some k_ ≠ ((.slice Ao17 t369.length co17) : Value).ownBlock ∧ some k_ ≠ ((.slice Ao20 t372.length co20) : Value).ownBlock) (.slice Ao13 t362.length co13) t362) ∧ Aside0 (Kd.R (Kd.int .i64) 3 wc w.heap.size (fun k_ => some k_ ≠ ((.slice Ao11 t359.length co11) : Value).ownBlock ∧ some k_ ≠ ((.slice Ao13 t362.length co13) : Value).ownBlock ∧ some k_ ≠ ((.slice Ao20 t372.length co20) : Value).ownBlock) (.slice Ao17 t369.length co17) t369) ∧ Aside0 (Kd.R (Kd.int .i64) 3 wc w.heap.size (fun k_ => some k_ ≠ ((.slice Ao11 t359.length co11) : Value).ownBlock ∧ some k_ ≠ ((.slice Ao13 t362.length co13) : Value).ownBlock ∧ some k_ ≠ ((.slice Ao17 t369.length co17) : Value).ownBlock) (.slice Ao20 t372.length co20) t372) ∧ Aside0 (wc.heap[gb368]? = some (.cells #[(.slice Ao11 t359.length co11), (.slice Ao13 t362.length co13), .int .i64 t365, .int .i64 t366] 28 (0, 0))) ∧ Aside0 (wc.heap[gb378]? = some (.cells #[(.slice Ao17 t369.length co17), (.slice Ao20 t372.length co20), .int .i64 t375, .int .i64 t376] 28 (0, 0))) ∧ Aside0 (Below w.heap.size w wc))
 case first => as_aux_lemma =>
  have H := HC6.out
  clear HC6
  replace H := Option.bind_eq_some_iff.mp H
  obtain ⟨t379, A210, H⟩ := H
  replace H : (if t379 = true then (if t377 = 0 then (if t367 = 0 then (laws_FnRoute.j0 k t352 t353 t367 t377 (t367 != 0) t359 t362 t365 t366 t369 t372 t375 t376) else (if t367 = 8 then (laws_FnRoute.j0 k t352 t353 t367 t377 (t367 != 0) t359 t362 t365 t366 t369 t372 t375 t376) else (laws_FnRoute.j0 k t352 t353 t367 t377 true t359 t362 t365 t366 t369 t372 t375 t376))) else (if t377 = 17 then (if t367 = 0 then (laws_FnRoute.j0 k t352 t353 t367 t377 false t359 t362 t365 t366 t369 t372 t375 t376) else (if t367 = 8 then (laws_FnRoute.j0 k t352 t353 t367 t377 false t359 t362 t365 t366 t369 t372 t375 t376) else (laws_FnRoute.j0 k t352 t353 t367 t377 true t359 t362 t365 t366 t369 t372 t375 t376))) else (laws_FnRoute.j0 k t352 t353 t367 t377 true t359 t362 t365 t366 t369 t372 t375 t376))) else (laws_FnRoute.j0 k t352 t353 t367 t377 true t359 t362 t365 t366 t369 t372 t375 t376)) = some r := H
  have A21 := za A210
  clear A210
  by_cases c22 : t379 = true
  rotate_left
  ·replace c22 := Bool.eq_false_iff.mpr c22
   subst c22
   have H1 : (laws_FnRoute.j0 k t352 t353 t367 t377 true t359 t362 t365 t366 t369 t372 t375 t376) = some r := by rw [if_neg (show ¬ (false = true) by decide)] at H; exact H
   clear H
   have H := H1
   clear H1
   have H' := za H
   clear H
   go_wp2_with (first | (go_at_call 12; (with_reducible refine (impl_StopsOK.calls k _ _ t352 false _ ?side1 ?side2 A21.out).mono ?_); (case side1 => exact zH75); (case side2 => exact zH108); rintro e w36 ⟨rfl, hb⟩; have n_ := zA_ (za (zp zG69 hb)) (zA_ (za (zp zG70 hb)) (zA_ (za (zp zG71 hb)) (zA_ (za (zp zG72 hb)) (zA_ (za (zp zG73 hb)) (zA_ (za (zp zG74 hb)) (zA_ (za (zs (g := gb368) (o := .cells #[.slice Ao11 t359.length co11, .slice Ao13 t362.length co13, .int .i64 t365, .int .i64 t366] 28 (0, 0)) zG66 hb)) (zA_ (za (zs (g := gb378) (o := .cells #[.slice Ao17 t369.length co17, .slice Ao20 t372.length co20, .int .i64 t375, .int .i64 t376] 28 (0, 0)) zK115 hb)) (za (zv zG85 hb))))))))); clear HO356 HO358 HO361 HO364 HO371 HO374 BK368 BK378 HB; obtain ⟨HO356, HO358, HO361, HO364, HO371, HO374, BK368, BK378, HB⟩ := n_; (try clear hb)))
   repeat (go_quiet (first | (go_at_call 12; (with_reducible refine (impl_StopsOK.calls k _ _ t352 false _ ?side1 ?side2 A21.out).mono ?_); (case side1 => exact zH75); (case side2 => exact zH108); rintro e w36 ⟨rfl, hb⟩; have n_ := zA_ (za (zp zG69 hb)) (zA_ (za (zp zG70 hb)) (zA_ (za (zp zG71 hb)) (zA_ (za (zp zG72 hb)) (zA_ (za (zp zG73 hb)) (zA_ (za (zp zG74 hb)) (zA_ (za (zs (g := gb368) (o := .cells #[.slice Ao11 t359.length co11, .slice Ao13 t362.length co13, .int .i64 t365, .int .i64 t366] 28 (0, 0)) zG66 hb)) (zA_ (za (zs (g := gb378) (o := .cells #[.slice Ao17 t369.length co17, .slice Ao20 t372.length co20, .int .i64 t375, .int .i64 t376] 28 (0, 0)) zK115 hb)) (za (zv zG85 hb))))))))); clear HO356 HO358 HO361 HO364 HO371 HO374 BK368 BK378 HB; obtain ⟨HO356, HO358, HO361, HO364, HO371, HO374, BK368, BK378, HB⟩ := n_; (try clear hb))); try go_wp2_with (first | (go_at_call 12; (with_reducible refine (impl_StopsOK.calls k _ _ t352 false _ ?side1 ?side2 A21.out).mono ?_); (case side1 => exact zH75); (case side2 => exact zH108); rintro e w36 ⟨rfl, hb⟩; have n_ := zA_ (za (zp zG69 hb)) (zA_ (za (zp zG70 hb)) (zA_ (za (zp zG71 hb)) (zA_ (za (zp zG72 hb)) (zA_ (za (zp zG73 hb)) (zA_ (za (zp zG74 hb)) (zA_ (za (zs (g := gb368) (o := .cells #[.slice Ao11 t359.length co11, .slice Ao13 t362.length co13, .int .i64 t365, .int .i64 t366] 28 (0, 0)) zG66 hb)) (zA_ (za (zs (g := gb378) (o := .cells #[.slice Ao17 t369.length co17, .slice Ao20 t372.length co20, .int .i64 t375, .int .i64 t376] 28 (0, 0)) zK115 hb)) (za (zv zG85 hb))))))))); clear HO356 HO358 HO361 HO364 HO371 HO374 BK368 BK378 HB; obtain ⟨HO356, HO358, HO361, HO364, HO371, HO374, BK368, BK378, HB⟩ := n_; (try clear hb))))
   go_meet
   case rel => exact ⟨_, (true), zG124, H', ⟨zH104⟩, ⟨zH97⟩, ⟨zH69⟩, ⟨zH70⟩, ⟨zH71⟩, ⟨zH72⟩, ⟨zH85⟩, ⟨zH86⟩, ⟨zH52⟩⟩
  subst c22
  have H1 : (if t377 = 0 then (if t367 = 0 then (laws_FnRoute.j0 k t352 t353 t367 t377 (t367 != 0) t359 t362 t365 t366 t369 t372 t375 t376) else (if t367 = 8 then (laws_FnRoute.j0 k t352 t353 t367 t377 (t367 != 0) t359 t362 t365 t366 t369 t372 t375 t376) else (laws_FnRoute.j0 k t352 t353 t367 t377 true t359 t362 t365 t366 t369 t372 t375 t376))) else (if t377 = 17 then (if t367 = 0 then (laws_FnRoute.j0 k t352 t353 t367 t377 false t359 t362 t365 t366 t369 t372 t375 t376) else (if t367 = 8 then (laws_FnRoute.j0 k t352 t353 t367 t377 false t359 t362 t365 t366 t369 t372 t375 t376) else (laws_FnRoute.j0 k t352 t353 t367 t377 true t359 t362 t365 t366 t369 t372 t375 t376))) else (laws_FnRoute.j0 k t352 t353 t367 t377 true t359 t362 t365 t366 t369 t372 t375 t376))) = some r := by rw [if_pos rfl] at H; exact H
  clear H
  have H := H1
  clear H1
  by_cases c23 : t377 = 0
  ·rw [if_pos c23] at H
   have c23b0 : (t377 == 0) = true := beq_iff_eq.mpr c23
   have c23b1 : (t377 != 0) = false := bne_eq_false_iff_eq.mpr c23
   clear c23
   (first | rw [c23b0] | (simp only [i64_w, i32_w]; rw [c23b0]) | skip)
   by_cases c24 : t367 = 0
   ·rw [if_pos c24] at H
    have c24b0 : (t367 == 0) = true := beq_iff_eq.mpr c24
    have c24b1 : (t367 != 0) = false := bne_eq_false_iff_eq.mpr c24
    clear c24
    have H' := za H
    clear H
    go_wp2_with (first | (go_at_call 12; (with_reducible refine (impl_StopsOK.calls k _ _ t352 true _ ?side1 ?side2 A21.out).mono ?_); (case side1 => exact zH75); (case side2 => exact zH108); rintro e w25 ⟨rfl, hb⟩; have n_ := zA_ (za (zp zG69 hb)) (zA_ (za (zp zG70 hb)) (zA_ (za (zp zG71 hb)) (zA_ (za (zp zG72 hb)) (zA_ (za (zp zG73 hb)) (zA_ (za (zp zG74 hb)) (zA_ (za (zs (g := gb368) (o := .cells #[.slice Ao11 t359.length co11, .slice Ao13 t362.length co13, .int .i64 t365, .int .i64 t366] 28 (0, 0)) zG66 hb)) (zA_ (za (zs (g := gb378) (o := .cells #[.slice Ao17 t369.length co17, .slice Ao20 t372.length co20, .int .i64 t375, .int .i64 t376] 28 (0, 0)) zK115 hb)) (za (zv zG85 hb))))))))); clear HO356 HO358 HO361 HO364 HO371 HO374 BK368 BK378 HB; obtain ⟨HO356, HO358, HO361, HO364, HO371, HO374, BK368, BK378, HB⟩ := n_; (try clear hb)))
    repeat (go_quiet (first | (go_at_call 12; (with_reducible refine (impl_StopsOK.calls k _ _ t352 true _ ?side1 ?side2 A21.out).mono ?_); (case side1 => exact zH75); (case side2 => exact zH108); rintro e w25 ⟨rfl, hb⟩; have n_ := zA_ (za (zp zG69 hb)) (zA_ (za (zp zG70 hb)) (zA_ (za (zp zG71 hb)) (zA_ (za (zp zG72 hb)) (zA_ (za (zp zG73 hb)) (zA_ (za (zp zG74 hb)) (zA_ (za (zs (g := gb368) (o := .cells #[.slice Ao11 t359.length co11, .slice Ao13 t362.length co13, .int .i64 t365, .int .i64 t366] 28 (0, 0)) zG66 hb)) (zA_ (za (zs (g := gb378) (o := .cells #[.slice Ao17 t369.length co17, .slice Ao20 t372.length co20, .int .i64 t375, .int .i64 t376] 28 (0, 0)) zK115 hb)) (za (zv zG85 hb))))))))); clear HO356 HO358 HO361 HO364 HO371 HO374 BK368 BK378 HB; obtain ⟨HO356, HO358, HO361, HO364, HO371, HO374, BK368, BK378, HB⟩ := n_; (try clear hb))); try go_wp2_with (first | (go_at_call 12; (with_reducible refine (impl_StopsOK.calls k _ _ t352 true _ ?side1 ?side2 A21.out).mono ?_); (case side1 => exact zH75); (case side2 => exact zH108); rintro e w25 ⟨rfl, hb⟩; have n_ := zA_ (za (zp zG69 hb)) (zA_ (za (zp zG70 hb)) (zA_ (za (zp zG71 hb)) (zA_ (za (zp zG72 hb)) (zA_ (za (zp zG73 hb)) (zA_ (za (zp zG74 hb)) (zA_ (za (zs (g := gb368) (o := .cells #[.slice Ao11 t359.length co11, .slice Ao13 t362.length co13, .int .i64 t365, .int .i64 t366] 28 (0, 0)) zG66 hb)) (zA_ (za (zs (g := gb378) (o := .cells #[.slice Ao17 t369.length co17, .slice Ao20 t372.length co20, .int .i64 t375, .int .i64 t376] 28 (0, 0)) zK115 hb)) (za (zv zG85 hb))))))))); clear HO356 HO358 HO361 HO364 HO371 HO374 BK368 BK378 HB; obtain ⟨HO356, HO358, HO361, HO364, HO371, HO374, BK368, BK378, HB⟩ := n_; (try clear hb))))
    go_meet
    case rel => exact ⟨_, ((t367 != 0)), zG124, H', ⟨zH104⟩, ⟨zH97⟩, ⟨zH69⟩, ⟨zH70⟩, ⟨zH71⟩, ⟨zH72⟩, ⟨zH85⟩, ⟨zH86⟩, ⟨zH52⟩⟩
   rw [if_neg c24] at H
   have c24b0 : (t367 == 0) = false := beq_eq_false_iff_ne.mpr c24
   have c24b1 : (t367 != 0) = true := bne_iff_ne.mpr c24
   by_cases c26 : t367 = 8
   rotate_left
   ·rw [if_neg c26] at H
    have c26b0 : (t367 == 8) = false := beq_eq_false_iff_ne.mpr c26
    have c26b1 : (t367 != 8) = true := bne_iff_ne.mpr c26
    have H' := za H
    clear H
    go_wp2_with (first | (go_at_call 12; (with_reducible refine (impl_StopsOK.calls k _ _ t352 true _ ?side1 ?side2 A21.out).mono ?_); (case side1 => exact zH75); (case side2 => exact zH108); rintro e w28 ⟨rfl, hb⟩; have n_ := zA_ (za (zp zG69 hb)) (zA_ (za (zp zG70 hb)) (zA_ (za (zp zG71 hb)) (zA_ (za (zp zG72 hb)) (zA_ (za (zp zG73 hb)) (zA_ (za (zp zG74 hb)) (zA_ (za (zs (g := gb368) (o := .cells #[.slice Ao11 t359.length co11, .slice Ao13 t362.length co13, .int .i64 t365, .int .i64 t366] 28 (0, 0)) zG66 hb)) (zA_ (za (zs (g := gb378) (o := .cells #[.slice Ao17 t369.length co17, .slice Ao20 t372.length co20, .int .i64 t375, .int .i64 t376] 28 (0, 0)) zK115 hb)) (za (zv zG85 hb))))))))); clear HO356 HO358 HO361 HO364 HO371 HO374 BK368 BK378 HB; obtain ⟨HO356, HO358, HO361, HO364, HO371, HO374, BK368, BK378, HB⟩ := n_; (try clear hb)))
    repeat (go_quiet (first | (go_at_call 12; (with_reducible refine (impl_StopsOK.calls k _ _ t352 true _ ?side1 ?side2 A21.out).mono ?_); (case side1 => exact zH75); (case side2 => exact zH108); rintro e w28 ⟨rfl, hb⟩; have n_ := zA_ (za (zp zG69 hb)) (zA_ (za (zp zG70 hb)) (zA_ (za (zp zG71 hb)) (zA_ (za (zp zG72 hb)) (zA_ (za (zp zG73 hb)) (zA_ (za (zp zG74 hb)) (zA_ (za (zs (g := gb368) (o := .cells #[.slice Ao11 t359.length co11, .slice Ao13 t362.length co13, .int .i64 t365, .int .i64 t366] 28 (0, 0)) zG66 hb)) (zA_ (za (zs (g := gb378) (o := .cells #[.slice Ao17 t369.length co17, .slice Ao20 t372.length co20, .int .i64 t375, .int .i64 t376] 28 (0, 0)) zK115 hb)) (za (zv zG85 hb))))))))); clear HO356 HO358 HO361 HO364 HO371 HO374 BK368 BK378 HB; obtain ⟨HO356, HO358, HO361, HO364, HO371, HO374, BK368, BK378, HB⟩ := n_; (try clear hb))); try go_wp2_with (first | (go_at_call 12; (with_reducible refine (impl_StopsOK.calls k _ _ t352 true _ ?side1 ?side2 A21.out).mono ?_); (case side1 => exact zH75); (case side2 => exact zH108); rintro e w28 ⟨rfl, hb⟩; have n_ := zA_ (za (zp zG69 hb)) (zA_ (za (zp zG70 hb)) (zA_ (za (zp zG71 hb)) (zA_ (za (zp zG72 hb)) (zA_ (za (zp zG73 hb)) (zA_ (za (zp zG74 hb)) (zA_ (za (zs (g := gb368) (o := .cells #[.slice Ao11 t359.length co11, .slice Ao13 t362.length co13, .int .i64 t365, .int .i64 t366] 28 (0, 0)) zG66 hb)) (zA_ (za (zs (g := gb378) (o := .cells #[.slice Ao17 t369.length co17, .slice Ao20 t372.length co20, .int .i64 t375, .int .i64 t376] 28 (0, 0)) zK115 hb)) (za (zv zG85 hb))))))))); clear HO356 HO358 HO361 HO364 HO371 HO374 BK368 BK378 HB; obtain ⟨HO356, HO358, HO361, HO364, HO371, HO374, BK368, BK378, HB⟩ := n_; (try clear hb))))
    go_meet
    case rel => exact ⟨_, (true), zG124, H', ⟨zH104⟩, ⟨zH97⟩, ⟨zH69⟩, ⟨zH70⟩, ⟨zH71⟩, ⟨zH72⟩, ⟨zH85⟩, ⟨zH86⟩, ⟨zH52⟩⟩
   rw [if_pos c26] at H
   have c26b0 : (t367 == 8) = true := beq_iff_eq.mpr c26
   have c26b1 : (t367 != 8) = false := bne_eq_false_iff_eq.mpr c26
   clear c26
   have H' := za H
   clear H
   go_wp2_with (first | (go_at_call 12; (with_reducible refine (impl_StopsOK.calls k _ _ t352 true _ ?side1 ?side2 A21.out).mono ?_); (case side1 => exact zH75); (case side2 => exact zH108); rintro e w27 ⟨rfl, hb⟩; have n_ := zA_ (za (zp zG69 hb)) (zA_ (za (zp zG70 hb)) (zA_ (za (zp zG71 hb)) (zA_ (za (zp zG72 hb)) (zA_ (za (zp zG73 hb)) (zA_ (za (zp zG74 hb)) (zA_ (za (zs (g := gb368) (o := .cells #[.slice Ao11 t359.length co11, .slice Ao13 t362.length co13, .int .i64 t365, .int .i64 t366] 28 (0, 0)) zG66 hb)) (zA_ (za (zs (g := gb378) (o := .cells #[.slice Ao17 t369.length co17, .slice Ao20 t372.length co20, .int .i64 t375, .int .i64 t376] 28 (0, 0)) zK115 hb)) (za (zv zG85 hb))))))))); clear HO356 HO358 HO361 HO364 HO371 HO374 BK368 BK378 HB; obtain ⟨HO356, HO358, HO361, HO364, HO371, HO374, BK368, BK378, HB⟩ := n_; (try clear hb)))
   repeat (go_quiet (first | (go_at_call 12; (with_reducible refine (impl_StopsOK.calls k _ _ t352 true _ ?side1 ?side2 A21.out).mono ?_); (case side1 => exact zH75); (case side2 => exact zH108); rintro e w27 ⟨rfl, hb⟩; have n_ := zA_ (za (zp zG69 hb)) (zA_ (za (zp zG70 hb)) (zA_ (za (zp zG71 hb)) (zA_ (za (zp zG72 hb)) (zA_ (za (zp zG73 hb)) (zA_ (za (zp zG74 hb)) (zA_ (za (zs (g := gb368) (o := .cells #[.slice Ao11 t359.length co11, .slice Ao13 t362.length co13, .int .i64 t365, .int .i64 t366] 28 (0, 0)) zG66 hb)) (zA_ (za (zs (g := gb378) (o := .cells #[.slice Ao17 t369.length co17, .slice Ao20 t372.length co20, .int .i64 t375, .int .i64 t376] 28 (0, 0)) zK115 hb)) (za (zv zG85 hb))))))))); clear HO356 HO358 HO361 HO364 HO371 HO374 BK368 BK378 HB; obtain ⟨HO356, HO358, HO361, HO364, HO371, HO374, BK368, BK378, HB⟩ := n_; (try clear hb))); try go_wp2_with (first | (go_at_call 12; (with_reducible refine (impl_StopsOK.calls k _ _ t352 true _ ?side1 ?side2 A21.out).mono ?_); (case side1 => exact zH75); (case side2 => exact zH108); rintro e w27 ⟨rfl, hb⟩; have n_ := zA_ (za (zp zG69 hb)) (zA_ (za (zp zG70 hb)) (zA_ (za (zp zG71 hb)) (zA_ (za (zp zG72 hb)) (zA_ (za (zp zG73 hb)) (zA_ (za (zp zG74 hb)) (zA_ (za (zs (g := gb368) (o := .cells #[.slice Ao11 t359.length co11, .slice Ao13 t362.length co13, .int .i64 t365, .int .i64 t366] 28 (0, 0)) zG66 hb)) (zA_ (za (zs (g := gb378) (o := .cells #[.slice Ao17 t369.length co17, .slice Ao20 t372.length co20, .int .i64 t375, .int .i64 t376] 28 (0, 0)) zK115 hb)) (za (zv zG85 hb))))))))); clear HO356 HO358 HO361 HO364 HO371 HO374 BK368 BK378 HB; obtain ⟨HO356, HO358, HO361, HO364, HO371, HO374, BK368, BK378, HB⟩ := n_; (try clear hb))))
   go_meet
   case rel => exact ⟨_, ((t367 != 0)), zG124, H', ⟨zH104⟩, ⟨zH97⟩, ⟨zH69⟩, ⟨zH70⟩, ⟨zH71⟩, ⟨zH72⟩, ⟨zH85⟩, ⟨zH86⟩, ⟨zH52⟩⟩
  rw [if_neg c23] at H
  have c23b0 : (t377 == 0) = false := beq_eq_false_iff_ne.mpr c23
  have c23b1 : (t377 != 0) = true := bne_iff_ne.mpr c23
  (first | rw [c23b0] | (simp only [i64_w, i32_w]; rw [c23b0]) | skip)
  by_cases c29 : t377 = 17
  rotate_left
  ·rw [if_neg c29] at H
   have c29b0 : (t377 == 17) = false := beq_eq_false_iff_ne.mpr c29
   have c29b1 : (t377 != 17) = true := bne_iff_ne.mpr c29
   have H' := za H
   clear H
   go_wp2_with (first | (go_at_call 12; (with_reducible refine (impl_StopsOK.calls k _ _ t352 true _ ?side1 ?side2 A21.out).mono ?_); (case side1 => exact zH75); (case side2 => exact zH108); rintro e w35 ⟨rfl, hb⟩; have n_ := zA_ (za (zp zG69 hb)) (zA_ (za (zp zG70 hb)) (zA_ (za (zp zG71 hb)) (zA_ (za (zp zG72 hb)) (zA_ (za (zp zG73 hb)) (zA_ (za (zp zG74 hb)) (zA_ (za (zs (g := gb368) (o := .cells #[.slice Ao11 t359.length co11, .slice Ao13 t362.length co13, .int .i64 t365, .int .i64 t366] 28 (0, 0)) zG66 hb)) (zA_ (za (zs (g := gb378) (o := .cells #[.slice Ao17 t369.length co17, .slice Ao20 t372.length co20, .int .i64 t375, .int .i64 t376] 28 (0, 0)) zK115 hb)) (za (zv zG85 hb))))))))); clear HO356 HO358 HO361 HO364 HO371 HO374 BK368 BK378 HB; obtain ⟨HO356, HO358, HO361, HO364, HO371, HO374, BK368, BK378, HB⟩ := n_; (try clear hb)))
   repeat (go_quiet (first | (go_at_call 12; (with_reducible refine (impl_StopsOK.calls k _ _ t352 true _ ?side1 ?side2 A21.out).mono ?_); (case side1 => exact zH75); (case side2 => exact zH108); rintro e w35 ⟨rfl, hb⟩; have n_ := zA_ (za (zp zG69 hb)) (zA_ (za (zp zG70 hb)) (zA_ (za (zp zG71 hb)) (zA_ (za (zp zG72 hb)) (zA_ (za (zp zG73 hb)) (zA_ (za (zp zG74 hb)) (zA_ (za (zs (g := gb368) (o := .cells #[.slice Ao11 t359.length co11, .slice Ao13 t362.length co13, .int .i64 t365, .int .i64 t366] 28 (0, 0)) zG66 hb)) (zA_ (za (zs (g := gb378) (o := .cells #[.slice Ao17 t369.length co17, .slice Ao20 t372.length co20, .int .i64 t375, .int .i64 t376] 28 (0, 0)) zK115 hb)) (za (zv zG85 hb))))))))); clear HO356 HO358 HO361 HO364 HO371 HO374 BK368 BK378 HB; obtain ⟨HO356, HO358, HO361, HO364, HO371, HO374, BK368, BK378, HB⟩ := n_; (try clear hb))); try go_wp2_with (first | (go_at_call 12; (with_reducible refine (impl_StopsOK.calls k _ _ t352 true _ ?side1 ?side2 A21.out).mono ?_); (case side1 => exact zH75); (case side2 => exact zH108); rintro e w35 ⟨rfl, hb⟩; have n_ := zA_ (za (zp zG69 hb)) (zA_ (za (zp zG70 hb)) (zA_ (za (zp zG71 hb)) (zA_ (za (zp zG72 hb)) (zA_ (za (zp zG73 hb)) (zA_ (za (zp zG74 hb)) (zA_ (za (zs (g := gb368) (o := .cells #[.slice Ao11 t359.length co11, .slice Ao13 t362.length co13, .int .i64 t365, .int .i64 t366] 28 (0, 0)) zG66 hb)) (zA_ (za (zs (g := gb378) (o := .cells #[.slice Ao17 t369.length co17, .slice Ao20 t372.length co20, .int .i64 t375, .int .i64 t376] 28 (0, 0)) zK115 hb)) (za (zv zG85 hb))))))))); clear HO356 HO358 HO361 HO364 HO371 HO374 BK368 BK378 HB; obtain ⟨HO356, HO358, HO361, HO364, HO371, HO374, BK368, BK378, HB⟩ := n_; (try clear hb))))
   go_meet
   case rel => exact ⟨_, (true), zG124, H', ⟨zH104⟩, ⟨zH97⟩, ⟨zH69⟩, ⟨zH70⟩, ⟨zH71⟩, ⟨zH72⟩, ⟨zH85⟩, ⟨zH86⟩, ⟨zH52⟩⟩
  rw [if_pos c29] at H
  have c29b0 : (t377 == 17) = true := beq_iff_eq.mpr c29
  have c29b1 : (t377 != 17) = false := bne_eq_false_iff_eq.mpr c29
  clear c29
  by_cases c30 : t367 = 0
  ·rw [if_pos c30] at H
   have c30b0 : (t367 == 0) = true := beq_iff_eq.mpr c30
   have c30b1 : (t367 != 0) = false := bne_eq_false_iff_eq.mpr c30
   clear c30
   have H' := za H
   clear H
   go_wp2_with (first | (go_at_call 12; (with_reducible refine (impl_StopsOK.calls k _ _ t352 true _ ?side1 ?side2 A21.out).mono ?_); (case side1 => exact zH75); (case side2 => exact zH108); rintro e w31 ⟨rfl, hb⟩; have n_ := zA_ (za (zp zG69 hb)) (zA_ (za (zp zG70 hb)) (zA_ (za (zp zG71 hb)) (zA_ (za (zp zG72 hb)) (zA_ (za (zp zG73 hb)) (zA_ (za (zp zG74 hb)) (zA_ (za (zs (g := gb368) (o := .cells #[.slice Ao11 t359.length co11, .slice Ao13 t362.length co13, .int .i64 t365, .int .i64 t366] 28 (0, 0)) zG66 hb)) (zA_ (za (zs (g := gb378) (o := .cells #[.slice Ao17 t369.length co17, .slice Ao20 t372.length co20, .int .i64 t375, .int .i64 t376] 28 (0, 0)) zK115 hb)) (za (zv zG85 hb))))))))); clear HO356 HO358 HO361 HO364 HO371 HO374 BK368 BK378 HB; obtain ⟨HO356, HO358, HO361, HO364, HO371, HO374, BK368, BK378, HB⟩ := n_; (try clear hb)))
   repeat (go_quiet (first | (go_at_call 12; (with_reducible refine (impl_StopsOK.calls k _ _ t352 true _ ?side1 ?side2 A21.out).mono ?_); (case side1 => exact zH75); (case side2 => exact zH108); rintro e w31 ⟨rfl, hb⟩; have n_ := zA_ (za (zp zG69 hb)) (zA_ (za (zp zG70 hb)) (zA_ (za (zp zG71 hb)) (zA_ (za (zp zG72 hb)) (zA_ (za (zp zG73 hb)) (zA_ (za (zp zG74 hb)) (zA_ (za (zs (g := gb368) (o := .cells #[.slice Ao11 t359.length co11, .slice Ao13 t362.length co13, .int .i64 t365, .int .i64 t366] 28 (0, 0)) zG66 hb)) (zA_ (za (zs (g := gb378) (o := .cells #[.slice Ao17 t369.length co17, .slice Ao20 t372.length co20, .int .i64 t375, .int .i64 t376] 28 (0, 0)) zK115 hb)) (za (zv zG85 hb))))))))); clear HO356 HO358 HO361 HO364 HO371 HO374 BK368 BK378 HB; obtain ⟨HO356, HO358, HO361, HO364, HO371, HO374, BK368, BK378, HB⟩ := n_; (try clear hb))); try go_wp2_with (first | (go_at_call 12; (with_reducible refine (impl_StopsOK.calls k _ _ t352 true _ ?side1 ?side2 A21.out).mono ?_); (case side1 => exact zH75); (case side2 => exact zH108); rintro e w31 ⟨rfl, hb⟩; have n_ := zA_ (za (zp zG69 hb)) (zA_ (za (zp zG70 hb)) (zA_ (za (zp zG71 hb)) (zA_ (za (zp zG72 hb)) (zA_ (za (zp zG73 hb)) (zA_ (za (zp zG74 hb)) (zA_ (za (zs (g := gb368) (o := .cells #[.slice Ao11 t359.length co11, .slice Ao13 t362.length co13, .int .i64 t365, .int .i64 t366] 28 (0, 0)) zG66 hb)) (zA_ (za (zs (g := gb378) (o := .cells #[.slice Ao17 t369.length co17, .slice Ao20 t372.length co20, .int .i64 t375, .int .i64 t376] 28 (0, 0)) zK115 hb)) (za (zv zG85 hb))))))))); clear HO356 HO358 HO361 HO364 HO371 HO374 BK368 BK378 HB; obtain ⟨HO356, HO358, HO361, HO364, HO371, HO374, BK368, BK378, HB⟩ := n_; (try clear hb))))
   go_meet
   case rel => exact ⟨_, (false), zG124, H', ⟨zH104⟩, ⟨zH97⟩, ⟨zH69⟩, ⟨zH70⟩, ⟨zH71⟩, ⟨zH72⟩, ⟨zH85⟩, ⟨zH86⟩, ⟨zH52⟩⟩
  rw [if_neg c30] at H
  have c30b0 : (t367 == 0) = false := beq_eq_false_iff_ne.mpr c30
  have c30b1 : (t367 != 0) = true := bne_iff_ne.mpr c30
  by_cases c32 : t367 = 8
  rotate_left
  ·rw [if_neg c32] at H
   have c32b0 : (t367 == 8) = false := beq_eq_false_iff_ne.mpr c32
   have c32b1 : (t367 != 8) = true := bne_iff_ne.mpr c32
   have H' := za H
   clear H
   go_wp2_with (first | (go_at_call 12; (with_reducible refine (impl_StopsOK.calls k _ _ t352 true _ ?side1 ?side2 A21.out).mono ?_); (case side1 => exact zH75); (case side2 => exact zH108); rintro e w34 ⟨rfl, hb⟩; have n_ := zA_ (za (zp zG69 hb)) (zA_ (za (zp zG70 hb)) (zA_ (za (zp zG71 hb)) (zA_ (za (zp zG72 hb)) (zA_ (za (zp zG73 hb)) (zA_ (za (zp zG74 hb)) (zA_ (za (zs (g := gb368) (o := .cells #[.slice Ao11 t359.length co11, .slice Ao13 t362.length co13, .int .i64 t365, .int .i64 t366] 28 (0, 0)) zG66 hb)) (zA_ (za (zs (g := gb378) (o := .cells #[.slice Ao17 t369.length co17, .slice Ao20 t372.length co20, .int .i64 t375, .int .i64 t376] 28 (0, 0)) zK115 hb)) (za (zv zG85 hb))))))))); clear HO356 HO358 HO361 HO364 HO371 HO374 BK368 BK378 HB; obtain ⟨HO356, HO358, HO361, HO364, HO371, HO374, BK368, BK378, HB⟩ := n_; (try clear hb)))
   repeat (go_quiet (first | (go_at_call 12; (with_reducible refine (impl_StopsOK.calls k _ _ t352 true _ ?side1 ?side2 A21.out).mono ?_); (case side1 => exact zH75); (case side2 => exact zH108); rintro e w34 ⟨rfl, hb⟩; have n_ := zA_ (za (zp zG69 hb)) (zA_ (za (zp zG70 hb)) (zA_ (za (zp zG71 hb)) (zA_ (za (zp zG72 hb)) (zA_ (za (zp zG73 hb)) (zA_ (za (zp zG74 hb)) (zA_ (za (zs (g := gb368) (o := .cells #[.slice Ao11 t359.length co11, .slice Ao13 t362.length co13, .int .i64 t365, .int .i64 t366] 28 (0, 0)) zG66 hb)) (zA_ (za (zs (g := gb378) (o := .cells #[.slice Ao17 t369.length co17, .slice Ao20 t372.length co20, .int .i64 t375, .int .i64 t376] 28 (0, 0)) zK115 hb)) (za (zv zG85 hb))))))))); clear HO356 HO358 HO361 HO364 HO371 HO374 BK368 BK378 HB; obtain ⟨HO356, HO358, HO361, HO364, HO371, HO374, BK368, BK378, HB⟩ := n_; (try clear hb))); try go_wp2_with (first | (go_at_call 12; (with_reducible refine (impl_StopsOK.calls k _ _ t352 true _ ?side1 ?side2 A21.out).mono ?_); (case side1 => exact zH75); (case side2 => exact zH108); rintro e w34 ⟨rfl, hb⟩; have n_ := zA_ (za (zp zG69 hb)) (zA_ (za (zp zG70 hb)) (zA_ (za (zp zG71 hb)) (zA_ (za (zp zG72 hb)) (zA_ (za (zp zG73 hb)) (zA_ (za (zp zG74 hb)) (zA_ (za (zs (g := gb368) (o := .cells #[.slice Ao11 t359.length co11, .slice Ao13 t362.length co13, .int .i64 t365, .int .i64 t366] 28 (0, 0)) zG66 hb)) (zA_ (za (zs (g := gb378) (o := .cells #[.slice Ao17 t369.length co17, .slice Ao20 t372.length co20, .int .i64 t375, .int .i64 t376] 28 (0, 0)) zK115 hb)) (za (zv zG85 hb))))))))); clear HO356 HO358 HO361 HO364 HO371 HO374 BK368 BK378 HB; obtain ⟨HO356, HO358, HO361, HO364, HO371, HO374, BK368, BK378, HB⟩ := n_; (try clear hb))))
   go_meet
   case rel => exact ⟨_, (true), zG124, H', ⟨zH104⟩, ⟨zH97⟩, ⟨zH69⟩, ⟨zH70⟩, ⟨zH71⟩, ⟨zH72⟩, ⟨zH85⟩, ⟨zH86⟩, ⟨zH52⟩⟩
  rw [if_pos c32] at H
  have c32b0 : (t367 == 8) = true := beq_iff_eq.mpr c32
  have c32b1 : (t367 != 8) = false := bne_eq_false_iff_eq.mpr c32
  clear c32
  have H' := za H
  clear H
  go_wp2_with (first | (go_at_call 12; (with_reducible refine (impl_StopsOK.calls k _ _ t352 true _ ?side1 ?side2 A21.out).mono ?_); (case side1 => exact zH75); (case side2 => exact zH108); rintro e w33 ⟨rfl, hb⟩; have n_ := zA_ (za (zp zG69 hb)) (zA_ (za (zp zG70 hb)) (zA_ (za (zp zG71 hb)) (zA_ (za (zp zG72 hb)) (zA_ (za (zp zG73 hb)) (zA_ (za (zp zG74 hb)) (zA_ (za (zs (g := gb368) (o := .cells #[.slice Ao11 t359.length co11, .slice Ao13 t362.length co13, .int .i64 t365, .int .i64 t366] 28 (0, 0)) zG66 hb)) (zA_ (za (zs (g := gb378) (o := .cells #[.slice Ao17 t369.length co17, .slice Ao20 t372.length co20, .int .i64 t375, .int .i64 t376] 28 (0, 0)) zK115 hb)) (za (zv zG85 hb))))))))); clear HO356 HO358 HO361 HO364 HO371 HO374 BK368 BK378 HB; obtain ⟨HO356, HO358, HO361, HO364, HO371, HO374, BK368, BK378, HB⟩ := n_; (try clear hb)))
  repeat (go_quiet (first | (go_at_call 12; (with_reducible refine (impl_StopsOK.calls k _ _ t352 true _ ?side1 ?side2 A21.out).mono ?_); (case side1 => exact zH75); (case side2 => exact zH108); rintro e w33 ⟨rfl, hb⟩; have n_ := zA_ (za (zp zG69 hb)) (zA_ (za (zp zG70 hb)) (zA_ (za (zp zG71 hb)) (zA_ (za (zp zG72 hb)) (zA_ (za (zp zG73 hb)) (zA_ (za (zp zG74 hb)) (zA_ (za (zs (g := gb368) (o := .cells #[.slice Ao11 t359.length co11, .slice Ao13 t362.length co13, .int .i64 t365, .int .i64 t366] 28 (0, 0)) zG66 hb)) (zA_ (za (zs (g := gb378) (o := .cells #[.slice Ao17 t369.length co17, .slice Ao20 t372.length co20, .int .i64 t375, .int .i64 t376] 28 (0, 0)) zK115 hb)) (za (zv zG85 hb))))))))); clear HO356 HO358 HO361 HO364 HO371 HO374 BK368 BK378 HB; obtain ⟨HO356, HO358, HO361, HO364, HO371, HO374, BK368, BK378, HB⟩ := n_; (try clear hb))); try go_wp2_with (first | (go_at_call 12; (with_reducible refine (impl_StopsOK.calls k _ _ t352 true _ ?side1 ?side2 A21.out).mono ?_); (case side1 => exact zH75); (case side2 => exact zH108); rintro e w33 ⟨rfl, hb⟩; have n_ := zA_ (za (zp zG69 hb)) (zA_ (za (zp zG70 hb)) (zA_ (za (zp zG71 hb)) (zA_ (za (zp zG72 hb)) (zA_ (za (zp zG73 hb)) (zA_ (za (zp zG74 hb)) (zA_ (za (zs (g := gb368) (o := .cells #[.slice Ao11 t359.length co11, .slice Ao13 t362.length co13, .int .i64 t365, .int .i64 t366] 28 (0, 0)) zG66 hb)) (zA_ (za (zs (g := gb378) (o := .cells #[.slice Ao17 t369.length co17, .slice Ao20 t372.length co20, .int .i64 t375, .int .i64 t376] 28 (0, 0)) zK115 hb)) (za (zv zG85 hb))))))))); clear HO356 HO358 HO361 HO364 HO371 HO374 BK368 BK378 HB; obtain ⟨HO356, HO358, HO361, HO364, HO371, HO374, BK368, BK378, HB⟩ := n_; (try clear hb))))
  go_meet
  case rel => exact ⟨_, (false), zG124, H', ⟨zH104⟩, ⟨zH97⟩, ⟨zH69⟩, ⟨zH70⟩, ⟨zH71⟩, ⟨zH72⟩, ⟨zH85⟩, ⟨zH86⟩, ⟨zH52⟩⟩
 case rest =>
  clear HC6
  try clear c2
  try clear c2b0
  try clear c2b1
  try clear c22
  try clear c23
  try clear c23b0
  try clear c23b1
  try clear c24
  try clear c24b0
  try clear c24b1
  try clear c26
  try clear c26b0
  try clear c26b1
  try clear c29
  try clear c29b0
  try clear c29b1
  try clear c30
  try clear c30b0
  try clear c30b1
  try clear c32
  try clear c32b0
  try clear c32b1
  try clear hcz12_0
  try clear hcz12_1
  try clear hcz12_2
  try clear hcz12_3
  try clear hcz19_0
  try clear hcz19_1
  try clear hcz19_2
  try clear hcz19_3
  try clear hfz12_0
  try clear hfz12_1
  try clear hfz12_2
  try clear hfz12_3
  try clear hfz19_0
  try clear hfz19_1
  try clear hfz19_2
  try clear hfz19_3
  obtain ⟨kq, x70_5, rfl, HA, HJ5, HO_3, HO_369000, HO_369001, HO_379000, HO_379001, BK368, BK378, HB⟩ := hcut
  cases kq with
  | zero => exact absurd HA.out (by simp [laws_FnRoute.j0])
  | succ kj5 =>
   have H := HA.out
   clear HA
   simp only [laws_FnRoute.j0] at H
   by_cases c37 : x70_5 = true
   ·subst c37
    have H1 : (some false) = some r := by rw [if_pos rfl] at H; exact H
    clear H
    have H := H1
    clear H1
    obtain rfl := Option.some.inj H
    go_wp2
    repeat (go_quiet (fail); try go_wp2)
    go_ret
    exact ⟨zH92, zH52⟩
   replace c37 := Bool.eq_false_iff.mpr c37
   subst c37
   have H1 : (if t367 = 8 then ((spec_BestRoute.f kj5 t352 t353).bind fun bt380 => (some (bt380.2.2.2.2 == t367))) else ((impl_LeastEnd.f kj5 t352 t353).bind fun bt390 => ((impl_RouteOf.f kj5 t352 t353 t359).bind fun bt392 => (if bt390.2 = 0 then (if bt392.2.2.2.2 = 0 then (if bt392.2.2.2.1 = t366 then (if bt392.2.2.1 = t365 then ((laws_sameInts.f kj5 bt392.2.1 t362).bind fun t402 => (if t402 = true then (if t366 < bt390.1 then (laws_FnRoute.j1 kj5 t352 t353 true t359 t362 t365 t366) else (if t377 = 0 then (laws_FnRoute.j1 kj5 t352 t353 (decide (t366 > t376)) t359 t362 t365 t366) else (laws_FnRoute.j1 kj5 t352 t353 false t359 t362 t365 t366))) else (laws_FnRoute.j1 kj5 t352 t353 true t359 t362 t365 t366))) else (laws_FnRoute.j1 kj5 t352 t353 true t359 t362 t365 t366)) else (laws_FnRoute.j1 kj5 t352 t353 true t359 t362 t365 t366)) else (laws_FnRoute.j1 kj5 t352 t353 true t359 t362 t365 t366)) else (laws_FnRoute.j1 kj5 t352 t353 true t359 t362 t365 t366))))) = some r := by rw [if_neg (show ¬ (false = true) by decide)] at H; exact H
   clear H
   have H := H1
   clear H1
   by_cases c38 : t367 = 8
   ·rw [if_pos c38] at H
    have c38b0 : (t367 == 8) = true := beq_iff_eq.mpr c38
    have c38b1 : (t367 != 8) = false := bne_eq_false_iff_eq.mpr c38
    clear c38
    replace H := Option.bind_eq_some_iff.mp H
    obtain ⟨⟨t380, t383, t386, t387, t388⟩, A390, H⟩ := H
    replace H : (some (t388 == t367)) = some r := H
    have A39 := za A390
    clear A390
    obtain rfl := Option.some.inj H
    go_wp2_with (first | (go_at_call 13; (with_reducible refine (spec_BestRoute.calls kj5 _ _ t352 t353 t380 t383 t386 t387 t388 _ ?side1 ?side2 A39.out).mono ?_); (case side1 => exact zH61); (case side2 => exact zH109); rintro e w40 ⟨v381, v384, rfl, ho0, ho1, hb⟩; have n_ := zA_ (za (zp zG123 hb)) (zA_ (za (zo (zaa (zaa (zaf zG111 hb) (zy ho0)) (zy ho1)) (fun _ h_ => h_.1))) (zA_ (za (zo (zaa (zaa (zaf zG112 hb) (zy ho0)) (zy ho1)) (fun _ h_ => h_.1))) (zA_ (za (zo (zaa (zaa (zaf zG113 hb) (zy ho0)) (zy ho1)) (fun _ h_ => h_.1))) (zA_ (za (zo (zaa (zaa (zaf zG114 hb) (zy ho0)) (zy ho1)) (fun _ h_ => h_.1))) (zA_ (za (zae (zz (zz (zz (zz ho0 (zab zG111)) (zab zG112)) (zab zG113)) (zab zG114)) (zt zG85))) (zA_ (za (zae (zz (zz (zz (zz ho1 (zab zG111)) (zab zG112)) (zab zG113)) (zab zG114)) (zt zG85))) (zA_ (za (zs (g := gb368) (o := .cells #[.slice Ao11 t359.length co11, .slice Ao13 t362.length co13, .int .i64 t365, .int .i64 t366] 28 (0, 0)) zG103 hb)) (zA_ (za (zs (g := gb378) (o := .cells #[.slice Ao17 t369.length co17, .slice Ao20 t372.length co20, .int .i64 t375, .int .i64 t376] 28 (0, 0)) zG104 hb)) (za (zv zG85 hb)))))))))); clear HO_3 HO_369000 HO_369001 HO_379000 HO_379001 BK368 BK378 HB; obtain ⟨HO_3, HO_369000, HO_369001, HO_379000, HO_379001, HO382, HO385, BK368, BK378, HB⟩ := n_; (try clear hb); (try clear ho0); (try clear ho1)) | ((with_reducible refine gate_dst (N := 10) rfl ?_); refine box_event ?hg (N := 10) ?hd (cs := #[.slice none 0 0, .slice none 0 0, .int .i64 0, .int .i64 0]) (t := 28) ?hr ?_; (case hd => rfl); (case hg => rfl); (case hr => exact zH103); intro gb389 hg w41 hbox hb; have n_ := zA_ (za (zp zG123 hb)) (zA_ (za (zp zG111 hb)) (zA_ (za (zp zG112 hb)) (zA_ (za (zp zG113 hb)) (zA_ (za (zp zG114 hb)) (zA_ (za (zp zK213 hb)) (zA_ (za (zp zK214 hb)) (zA_ (za (zs (g := gb368) (o := .cells #[.slice Ao11 t359.length co11, .slice Ao13 t362.length co13, .int .i64 t365, .int .i64 t366] 28 (0, 0)) zG103 hb)) (zA_ (za (zs (g := gb378) (o := .cells #[.slice Ao17 t369.length co17, .slice Ao20 t372.length co20, .int .i64 t375, .int .i64 t376] 28 (0, 0)) zG104 hb)) (zA_ (za (zv zG85 hb)) (zA_ (za (hbox)) (zA_ (zN1 w.heap.size hg (zt zG85)) (zA_ (zN1 w.heap.size hg (zt zG85)) (zN3 hg (zac (g := gb368) (o := .cells #[.slice Ao11 t359.length co11, .slice Ao13 t362.length co13, .int .i64 t365, .int .i64 t366] 28 (0, 0)) zG103) (zN2 hg (zac (g := gb378) (o := .cells #[.slice Ao17 t369.length co17, .slice Ao20 t372.length co20, .int .i64 t375, .int .i64 t376] 28 (0, 0)) zG104))))))))))))))); clear HO_3 HO_369000 HO_369001 HO_379000 HO_379001 HO382 HO385 BK368 BK378 HB; obtain ⟨HO_3, HO_369000, HO_369001, HO_379000, HO_379001, HO382, HO385, BK368, BK378, HB, BK389, GW389, GE389, NB368_389, NB389_368, NB378_389, NB389_378⟩ := n_; clear hb hbox hg; obtain ⟨Ao42, co42, eo42⟩ := zad HO382.out; subst eo42; have hnb43 := NB389_368.out; have hnc43 := NB368_389.out; have hnb44 := NB389_378.out; have hnc44 := NB378_389.out; obtain ⟨hcz45_0, hcz45_1, hcz45_2, hcz45_3, hfz45_0, hfz45_1, hfz45_2, hfz45_3⟩ := zB4 BK389.out; obtain ⟨Ao46, co46, eo46⟩ := zad HO385.out; subst eo46))
    repeat (go_quiet (first | (go_at_call 13; (with_reducible refine (spec_BestRoute.calls kj5 _ _ t352 t353 t380 t383 t386 t387 t388 _ ?side1 ?side2 A39.out).mono ?_); (case side1 => exact zH61); (case side2 => exact zH109); rintro e w40 ⟨v381, v384, rfl, ho0, ho1, hb⟩; have n_ := zA_ (za (zp zG123 hb)) (zA_ (za (zo (zaa (zaa (zaf zG111 hb) (zy ho0)) (zy ho1)) (fun _ h_ => h_.1))) (zA_ (za (zo (zaa (zaa (zaf zG112 hb) (zy ho0)) (zy ho1)) (fun _ h_ => h_.1))) (zA_ (za (zo (zaa (zaa (zaf zG113 hb) (zy ho0)) (zy ho1)) (fun _ h_ => h_.1))) (zA_ (za (zo (zaa (zaa (zaf zG114 hb) (zy ho0)) (zy ho1)) (fun _ h_ => h_.1))) (zA_ (za (zae (zz (zz (zz (zz ho0 (zab zG111)) (zab zG112)) (zab zG113)) (zab zG114)) (zt zG85))) (zA_ (za (zae (zz (zz (zz (zz ho1 (zab zG111)) (zab zG112)) (zab zG113)) (zab zG114)) (zt zG85))) (zA_ (za (zs (g := gb368) (o := .cells #[.slice Ao11 t359.length co11, .slice Ao13 t362.length co13, .int .i64 t365, .int .i64 t366] 28 (0, 0)) zG103 hb)) (zA_ (za (zs (g := gb378) (o := .cells #[.slice Ao17 t369.length co17, .slice Ao20 t372.length co20, .int .i64 t375, .int .i64 t376] 28 (0, 0)) zG104 hb)) (za (zv zG85 hb)))))))))); clear HO_3 HO_369000 HO_369001 HO_379000 HO_379001 BK368 BK378 HB; obtain ⟨HO_3, HO_369000, HO_369001, HO_379000, HO_379001, HO382, HO385, BK368, BK378, HB⟩ := n_; (try clear hb); (try clear ho0); (try clear ho1)) | ((with_reducible refine gate_dst (N := 10) rfl ?_); refine box_event ?hg (N := 10) ?hd (cs := #[.slice none 0 0, .slice none 0 0, .int .i64 0, .int .i64 0]) (t := 28) ?hr ?_; (case hd => rfl); (case hg => rfl); (case hr => exact zH103); intro gb389 hg w41 hbox hb; have n_ := zA_ (za (zp zG123 hb)) (zA_ (za (zp zG111 hb)) (zA_ (za (zp zG112 hb)) (zA_ (za (zp zG113 hb)) (zA_ (za (zp zG114 hb)) (zA_ (za (zp zK213 hb)) (zA_ (za (zp zK214 hb)) (zA_ (za (zs (g := gb368) (o := .cells #[.slice Ao11 t359.length co11, .slice Ao13 t362.length co13, .int .i64 t365, .int .i64 t366] 28 (0, 0)) zG103 hb)) (zA_ (za (zs (g := gb378) (o := .cells #[.slice Ao17 t369.length co17, .slice Ao20 t372.length co20, .int .i64 t375, .int .i64 t376] 28 (0, 0)) zG104 hb)) (zA_ (za (zv zG85 hb)) (zA_ (za (hbox)) (zA_ (zN1 w.heap.size hg (zt zG85)) (zA_ (zN1 w.heap.size hg (zt zG85)) (zN3 hg (zac (g := gb368) (o := .cells #[.slice Ao11 t359.length co11, .slice Ao13 t362.length co13, .int .i64 t365, .int .i64 t366] 28 (0, 0)) zG103) (zN2 hg (zac (g := gb378) (o := .cells #[.slice Ao17 t369.length co17, .slice Ao20 t372.length co20, .int .i64 t375, .int .i64 t376] 28 (0, 0)) zG104))))))))))))))); clear HO_3 HO_369000 HO_369001 HO_379000 HO_379001 HO382 HO385 BK368 BK378 HB; obtain ⟨HO_3, HO_369000, HO_369001, HO_379000, HO_379001, HO382, HO385, BK368, BK378, HB, BK389, GW389, GE389, NB368_389, NB389_368, NB378_389, NB389_378⟩ := n_; clear hb hbox hg; obtain ⟨Ao42, co42, eo42⟩ := zad HO382.out; subst eo42; have hnb43 := NB389_368.out; have hnc43 := NB368_389.out; have hnb44 := NB389_378.out; have hnc44 := NB378_389.out; obtain ⟨hcz45_0, hcz45_1, hcz45_2, hcz45_3, hfz45_0, hfz45_1, hfz45_2, hfz45_3⟩ := zB4 BK389.out; obtain ⟨Ao46, co46, eo46⟩ := zad HO385.out; subst eo46)); try go_wp2_with (first | (go_at_call 13; (with_reducible refine (spec_BestRoute.calls kj5 _ _ t352 t353 t380 t383 t386 t387 t388 _ ?side1 ?side2 A39.out).mono ?_); (case side1 => exact zH61); (case side2 => exact zH109); rintro e w40 ⟨v381, v384, rfl, ho0, ho1, hb⟩; have n_ := zA_ (za (zp zG123 hb)) (zA_ (za (zo (zaa (zaa (zaf zG111 hb) (zy ho0)) (zy ho1)) (fun _ h_ => h_.1))) (zA_ (za (zo (zaa (zaa (zaf zG112 hb) (zy ho0)) (zy ho1)) (fun _ h_ => h_.1))) (zA_ (za (zo (zaa (zaa (zaf zG113 hb) (zy ho0)) (zy ho1)) (fun _ h_ => h_.1))) (zA_ (za (zo (zaa (zaa (zaf zG114 hb) (zy ho0)) (zy ho1)) (fun _ h_ => h_.1))) (zA_ (za (zae (zz (zz (zz (zz ho0 (zab zG111)) (zab zG112)) (zab zG113)) (zab zG114)) (zt zG85))) (zA_ (za (zae (zz (zz (zz (zz ho1 (zab zG111)) (zab zG112)) (zab zG113)) (zab zG114)) (zt zG85))) (zA_ (za (zs (g := gb368) (o := .cells #[.slice Ao11 t359.length co11, .slice Ao13 t362.length co13, .int .i64 t365, .int .i64 t366] 28 (0, 0)) zG103 hb)) (zA_ (za (zs (g := gb378) (o := .cells #[.slice Ao17 t369.length co17, .slice Ao20 t372.length co20, .int .i64 t375, .int .i64 t376] 28 (0, 0)) zG104 hb)) (za (zv zG85 hb)))))))))); clear HO_3 HO_369000 HO_369001 HO_379000 HO_379001 BK368 BK378 HB; obtain ⟨HO_3, HO_369000, HO_369001, HO_379000, HO_379001, HO382, HO385, BK368, BK378, HB⟩ := n_; (try clear hb); (try clear ho0); (try clear ho1)) | ((with_reducible refine gate_dst (N := 10) rfl ?_); refine box_event ?hg (N := 10) ?hd (cs := #[.slice none 0 0, .slice none 0 0, .int .i64 0, .int .i64 0]) (t := 28) ?hr ?_; (case hd => rfl); (case hg => rfl); (case hr => exact zH103); intro gb389 hg w41 hbox hb; have n_ := zA_ (za (zp zG123 hb)) (zA_ (za (zp zG111 hb)) (zA_ (za (zp zG112 hb)) (zA_ (za (zp zG113 hb)) (zA_ (za (zp zG114 hb)) (zA_ (za (zp zK213 hb)) (zA_ (za (zp zK214 hb)) (zA_ (za (zs (g := gb368) (o := .cells #[.slice Ao11 t359.length co11, .slice Ao13 t362.length co13, .int .i64 t365, .int .i64 t366] 28 (0, 0)) zG103 hb)) (zA_ (za (zs (g := gb378) (o := .cells #[.slice Ao17 t369.length co17, .slice Ao20 t372.length co20, .int .i64 t375, .int .i64 t376] 28 (0, 0)) zG104 hb)) (zA_ (za (zv zG85 hb)) (zA_ (za (hbox)) (zA_ (zN1 w.heap.size hg (zt zG85)) (zA_ (zN1 w.heap.size hg (zt zG85)) (zN3 hg (zac (g := gb368) (o := .cells #[.slice Ao11 t359.length co11, .slice Ao13 t362.length co13, .int .i64 t365, .int .i64 t366] 28 (0, 0)) zG103) (zN2 hg (zac (g := gb378) (o := .cells #[.slice Ao17 t369.length co17, .slice Ao20 t372.length co20, .int .i64 t375, .int .i64 t376] 28 (0, 0)) zG104))))))))))))))); clear HO_3 HO_369000 HO_369001 HO_379000 HO_379001 HO382 HO385 BK368 BK378 HB; obtain ⟨HO_3, HO_369000, HO_369001, HO_379000, HO_379001, HO382, HO385, BK368, BK378, HB, BK389, GW389, GE389, NB368_389, NB389_368, NB378_389, NB389_378⟩ := n_; clear hb hbox hg; obtain ⟨Ao42, co42, eo42⟩ := zad HO382.out; subst eo42; have hnb43 := NB389_368.out; have hnc43 := NB368_389.out; have hnb44 := NB389_378.out; have hnc44 := NB378_389.out; obtain ⟨hcz45_0, hcz45_1, hcz45_2, hcz45_3, hfz45_0, hfz45_1, hfz45_2, hfz45_3⟩ := zB4 BK389.out; obtain ⟨Ao46, co46, eo46⟩ := zad HO385.out; subst eo46)))
    go_ret
    exact ⟨zH92, by repeat (first | (with_reducible first | exact HB.out | apply zm | apply zj | apply zk | refine zi ?_ GE368.out | refine zi ?_ GE378.out | refine zi ?_ GE389.out) | exact HB.out)⟩
   rw [if_neg c38] at H
   have c38b0 : (t367 == 8) = false := beq_eq_false_iff_ne.mpr c38
   have c38b1 : (t367 != 8) = true := bne_iff_ne.mpr c38
   replace H := Option.bind_eq_some_iff.mp H
   obtain ⟨⟨t390, t391⟩, A470, H⟩ := H
   replace H : ((impl_RouteOf.f kj5 t352 t353 t359).bind fun bt392 => (if t391 = 0 then (if bt392.2.2.2.2 = 0 then (if bt392.2.2.2.1 = t366 then (if bt392.2.2.1 = t365 then ((laws_sameInts.f kj5 bt392.2.1 t362).bind fun t402 => (if t402 = true then (if t366 < t390 then (laws_FnRoute.j1 kj5 t352 t353 true t359 t362 t365 t366) else (if t377 = 0 then (laws_FnRoute.j1 kj5 t352 t353 (decide (t366 > t376)) t359 t362 t365 t366) else (laws_FnRoute.j1 kj5 t352 t353 false t359 t362 t365 t366))) else (laws_FnRoute.j1 kj5 t352 t353 true t359 t362 t365 t366))) else (laws_FnRoute.j1 kj5 t352 t353 true t359 t362 t365 t366)) else (laws_FnRoute.j1 kj5 t352 t353 true t359 t362 t365 t366)) else (laws_FnRoute.j1 kj5 t352 t353 true t359 t362 t365 t366)) else (laws_FnRoute.j1 kj5 t352 t353 true t359 t362 t365 t366))) = some r := H
   have A47 := za A470
   clear A470
   replace H := Option.bind_eq_some_iff.mp H
   obtain ⟨⟨t392, t395, t398, t399, t400⟩, A480, H⟩ := H
   replace H : (if t391 = 0 then (if t400 = 0 then (if t399 = t366 then (if t398 = t365 then ((laws_sameInts.f kj5 t395 t362).bind fun t402 => (if t402 = true then (if t366 < t390 then (laws_FnRoute.j1 kj5 t352 t353 true t359 t362 t365 t366) else (if t377 = 0 then (laws_FnRoute.j1 kj5 t352 t353 (decide (t366 > t376)) t359 t362 t365 t366) else (laws_FnRoute.j1 kj5 t352 t353 false t359 t362 t365 t366))) else (laws_FnRoute.j1 kj5 t352 t353 true t359 t362 t365 t366))) else (laws_FnRoute.j1 kj5 t352 t353 true t359 t362 t365 t366)) else (laws_FnRoute.j1 kj5 t352 t353 true t359 t362 t365 t366)) else (laws_FnRoute.j1 kj5 t352 t353 true t359 t362 t365 t366)) else (laws_FnRoute.j1 kj5 t352 t353 true t359 t362 t365 t366)) = some r := H
   obtain ⟨A48, HC49⟩ := zD2 A480 H
   clear A480 H
   go_upto_region 13 with (first | (go_at_call 14; (with_reducible refine (impl_LeastEnd.calls kj5 _ _ t352 t353 t390 t391 _ ?side1 ?side2 A47.out).mono ?_); (case side1 => exact zH61); (case side2 => exact zH109); rintro e w50 ⟨rfl, hb⟩; have n_ := zA_ (za (zp zG123 hb)) (zA_ (za (zp zG111 hb)) (zA_ (za (zp zG112 hb)) (zA_ (za (zp zG113 hb)) (zA_ (za (zp zG114 hb)) (zA_ (za (zs (g := gb368) (o := .cells #[.slice Ao11 t359.length co11, .slice Ao13 t362.length co13, .int .i64 t365, .int .i64 t366] 28 (0, 0)) zG103 hb)) (zA_ (za (zs (g := gb378) (o := .cells #[.slice Ao17 t369.length co17, .slice Ao20 t372.length co20, .int .i64 t375, .int .i64 t376] 28 (0, 0)) zG104 hb)) (za (zv zG85 hb)))))))); clear HO_3 HO_369000 HO_369001 HO_379000 HO_379001 BK368 BK378 HB; obtain ⟨HO_3, HO_369000, HO_369001, HO_379000, HO_379001, BK368, BK378, HB⟩ := n_; (try clear hb); have hnb51 := NB368_378.out; have hnc51 := NB378_368.out; obtain ⟨hcz52_0, hcz52_1, hcz52_2, hcz52_3, hfz52_0, hfz52_1, hfz52_2, hfz52_3⟩ := zB4 BK368.out) | (go_at_call 11; (with_reducible refine (impl_RouteOf.calls kj5 _ _ t352 t353 _ _ t359 t392 t395 t398 t399 t400 _ ?side1 ?side2 ?side3 ?side4 A48.out).mono ?_); (case side1 => exact zH61); (case side2 => exact zH109); (case side3 => exact zH56); (case side4 => exact (zw HO_369000.out).2.1); rintro e w53 ⟨v393, v396, rfl, ho0, ho1, hb⟩; have n_ := zA_ (za (zp zG123 hb)) (zA_ (za (zo (zaa (zaa (zaf zG111 hb) (zy ho0)) (zy ho1)) (fun _ h_ => h_.1))) (zA_ (za (zo (zaa (zaa (zaf zG112 hb) (zy ho0)) (zy ho1)) (fun _ h_ => h_.1))) (zA_ (za (zo (zaa (zaa (zaf zG113 hb) (zy ho0)) (zy ho1)) (fun _ h_ => h_.1))) (zA_ (za (zo (zaa (zaa (zaf zG114 hb) (zy ho0)) (zy ho1)) (fun _ h_ => h_.1))) (zA_ (za (zae (zz (zz (zz (zz ho0 (zab zG111)) (zab zG112)) (zab zG113)) (zab zG114)) (zt zG85))) (zA_ (za (zae (zz (zz (zz (zz ho1 (zab zG111)) (zab zG112)) (zab zG113)) (zab zG114)) (zt zG85))) (zA_ (za (zs (g := gb368) (o := .cells #[.slice Ao11 t359.length co11, .slice Ao13 t362.length co13, .int .i64 t365, .int .i64 t366] 28 (0, 0)) zG103 hb)) (zA_ (za (zs (g := gb378) (o := .cells #[.slice Ao17 t369.length co17, .slice Ao20 t372.length co20, .int .i64 t375, .int .i64 t376] 28 (0, 0)) zG104 hb)) (za (zv zG85 hb)))))))))); clear HO_3 HO_369000 HO_369001 HO_379000 HO_379001 BK368 BK378 HB; obtain ⟨HO_3, HO_369000, HO_369001, HO_379000, HO_379001, HO394, HO397, BK368, BK378, HB⟩ := n_; (try clear hb); (try clear ho0); (try clear ho1)) | ((with_reducible refine gate_dst (N := 14) rfl ?_); refine box_event ?hg (N := 14) ?hd (cs := #[.slice none 0 0, .slice none 0 0, .int .i64 0, .int .i64 0]) (t := 28) ?hr ?_; (case hd => rfl); (case hg => rfl); (case hr => exact zH103); intro gb401 hg w54 hbox hb; have n_ := zA_ (za (zp zG123 hb)) (zA_ (za (zp zG111 hb)) (zA_ (za (zp zG112 hb)) (zA_ (za (zp zG113 hb)) (zA_ (za (zp zG114 hb)) (zA_ (za (zp zK215 hb)) (zA_ (za (zp zK216 hb)) (zA_ (za (zs (g := gb368) (o := .cells #[.slice Ao11 t359.length co11, .slice Ao13 t362.length co13, .int .i64 t365, .int .i64 t366] 28 (0, 0)) zG103 hb)) (zA_ (za (zs (g := gb378) (o := .cells #[.slice Ao17 t369.length co17, .slice Ao20 t372.length co20, .int .i64 t375, .int .i64 t376] 28 (0, 0)) zG104 hb)) (zA_ (za (zv zG85 hb)) (zA_ (za (hbox)) (zA_ (zN1 w.heap.size hg (zt zG85)) (zA_ (zN1 w.heap.size hg (zt zG85)) (zN3 hg (zac (g := gb368) (o := .cells #[.slice Ao11 t359.length co11, .slice Ao13 t362.length co13, .int .i64 t365, .int .i64 t366] 28 (0, 0)) zG103) (zN2 hg (zac (g := gb378) (o := .cells #[.slice Ao17 t369.length co17, .slice Ao20 t372.length co20, .int .i64 t375, .int .i64 t376] 28 (0, 0)) zG104))))))))))))))); clear HO_3 HO_369000 HO_369001 HO_379000 HO_379001 HO394 HO397 BK368 BK378 HB; obtain ⟨HO_3, HO_369000, HO_369001, HO_379000, HO_379001, HO394, HO397, BK368, BK378, HB, BK401, GW401, GE401, NB368_401, NB401_368, NB378_401, NB401_378⟩ := n_; clear hb hbox hg; obtain ⟨Ao55, co55, eo55⟩ := zad HO394.out; subst eo55; have hnb56 := NB401_368.out; have hnc56 := NB368_401.out; have hnb57 := NB401_378.out; have hnc57 := NB378_401.out; obtain ⟨hcz58_0, hcz58_1, hcz58_2, hcz58_3, hfz58_0, hfz58_1, hfz58_2, hfz58_3⟩ := zB4 BK401.out; obtain ⟨Ao59, co59, eo59⟩ := zad HO397.out; subst eo59))
   repeat (go_quiet (first | (go_at_call 14; (with_reducible refine (impl_LeastEnd.calls kj5 _ _ t352 t353 t390 t391 _ ?side1 ?side2 A47.out).mono ?_); (case side1 => exact zH61); (case side2 => exact zH109); rintro e w50 ⟨rfl, hb⟩; have n_ := zA_ (za (zp zG123 hb)) (zA_ (za (zp zG111 hb)) (zA_ (za (zp zG112 hb)) (zA_ (za (zp zG113 hb)) (zA_ (za (zp zG114 hb)) (zA_ (za (zs (g := gb368) (o := .cells #[.slice Ao11 t359.length co11, .slice Ao13 t362.length co13, .int .i64 t365, .int .i64 t366] 28 (0, 0)) zG103 hb)) (zA_ (za (zs (g := gb378) (o := .cells #[.slice Ao17 t369.length co17, .slice Ao20 t372.length co20, .int .i64 t375, .int .i64 t376] 28 (0, 0)) zG104 hb)) (za (zv zG85 hb)))))))); clear HO_3 HO_369000 HO_369001 HO_379000 HO_379001 BK368 BK378 HB; obtain ⟨HO_3, HO_369000, HO_369001, HO_379000, HO_379001, BK368, BK378, HB⟩ := n_; (try clear hb); have hnb51 := NB368_378.out; have hnc51 := NB378_368.out; obtain ⟨hcz52_0, hcz52_1, hcz52_2, hcz52_3, hfz52_0, hfz52_1, hfz52_2, hfz52_3⟩ := zB4 BK368.out) | (go_at_call 11; (with_reducible refine (impl_RouteOf.calls kj5 _ _ t352 t353 _ _ t359 t392 t395 t398 t399 t400 _ ?side1 ?side2 ?side3 ?side4 A48.out).mono ?_); (case side1 => exact zH61); (case side2 => exact zH109); (case side3 => exact zH56); (case side4 => exact (zw HO_369000.out).2.1); rintro e w53 ⟨v393, v396, rfl, ho0, ho1, hb⟩; have n_ := zA_ (za (zp zG123 hb)) (zA_ (za (zo (zaa (zaa (zaf zG111 hb) (zy ho0)) (zy ho1)) (fun _ h_ => h_.1))) (zA_ (za (zo (zaa (zaa (zaf zG112 hb) (zy ho0)) (zy ho1)) (fun _ h_ => h_.1))) (zA_ (za (zo (zaa (zaa (zaf zG113 hb) (zy ho0)) (zy ho1)) (fun _ h_ => h_.1))) (zA_ (za (zo (zaa (zaa (zaf zG114 hb) (zy ho0)) (zy ho1)) (fun _ h_ => h_.1))) (zA_ (za (zae (zz (zz (zz (zz ho0 (zab zG111)) (zab zG112)) (zab zG113)) (zab zG114)) (zt zG85))) (zA_ (za (zae (zz (zz (zz (zz ho1 (zab zG111)) (zab zG112)) (zab zG113)) (zab zG114)) (zt zG85))) (zA_ (za (zs (g := gb368) (o := .cells #[.slice Ao11 t359.length co11, .slice Ao13 t362.length co13, .int .i64 t365, .int .i64 t366] 28 (0, 0)) zG103 hb)) (zA_ (za (zs (g := gb378) (o := .cells #[.slice Ao17 t369.length co17, .slice Ao20 t372.length co20, .int .i64 t375, .int .i64 t376] 28 (0, 0)) zG104 hb)) (za (zv zG85 hb)))))))))); clear HO_3 HO_369000 HO_369001 HO_379000 HO_379001 BK368 BK378 HB; obtain ⟨HO_3, HO_369000, HO_369001, HO_379000, HO_379001, HO394, HO397, BK368, BK378, HB⟩ := n_; (try clear hb); (try clear ho0); (try clear ho1)) | ((with_reducible refine gate_dst (N := 14) rfl ?_); refine box_event ?hg (N := 14) ?hd (cs := #[.slice none 0 0, .slice none 0 0, .int .i64 0, .int .i64 0]) (t := 28) ?hr ?_; (case hd => rfl); (case hg => rfl); (case hr => exact zH103); intro gb401 hg w54 hbox hb; have n_ := zA_ (za (zp zG123 hb)) (zA_ (za (zp zG111 hb)) (zA_ (za (zp zG112 hb)) (zA_ (za (zp zG113 hb)) (zA_ (za (zp zG114 hb)) (zA_ (za (zp zK215 hb)) (zA_ (za (zp zK216 hb)) (zA_ (za (zs (g := gb368) (o := .cells #[.slice Ao11 t359.length co11, .slice Ao13 t362.length co13, .int .i64 t365, .int .i64 t366] 28 (0, 0)) zG103 hb)) (zA_ (za (zs (g := gb378) (o := .cells #[.slice Ao17 t369.length co17, .slice Ao20 t372.length co20, .int .i64 t375, .int .i64 t376] 28 (0, 0)) zG104 hb)) (zA_ (za (zv zG85 hb)) (zA_ (za (hbox)) (zA_ (zN1 w.heap.size hg (zt zG85)) (zA_ (zN1 w.heap.size hg (zt zG85)) (zN3 hg (zac (g := gb368) (o := .cells #[.slice Ao11 t359.length co11, .slice Ao13 t362.length co13, .int .i64 t365, .int .i64 t366] 28 (0, 0)) zG103) (zN2 hg (zac (g := gb378) (o := .cells #[.slice Ao17 t369.length co17, .slice Ao20 t372.length co20, .int .i64 t375, .int .i64 t376] 28 (0, 0)) zG104))))))))))))))); clear HO_3 HO_369000 HO_369001 HO_379000 HO_379001 HO394 HO397 BK368 BK378 HB; obtain ⟨HO_3, HO_369000, HO_369001, HO_379000, HO_379001, HO394, HO397, BK368, BK378, HB, BK401, GW401, GE401, NB368_401, NB401_368, NB378_401, NB401_378⟩ := n_; clear hb hbox hg; obtain ⟨Ao55, co55, eo55⟩ := zad HO394.out; subst eo55; have hnb56 := NB401_368.out; have hnc56 := NB368_401.out; have hnb57 := NB401_378.out; have hnc57 := NB378_401.out; obtain ⟨hcz58_0, hcz58_1, hcz58_2, hcz58_3, hfz58_0, hfz58_1, hfz58_2, hfz58_3⟩ := zB4 BK401.out; obtain ⟨Ao59, co59, eo59⟩ := zad HO397.out; subst eo59)); go_upto_region 13 with (first | (go_at_call 14; (with_reducible refine (impl_LeastEnd.calls kj5 _ _ t352 t353 t390 t391 _ ?side1 ?side2 A47.out).mono ?_); (case side1 => exact zH61); (case side2 => exact zH109); rintro e w50 ⟨rfl, hb⟩; have n_ := zA_ (za (zp zG123 hb)) (zA_ (za (zp zG111 hb)) (zA_ (za (zp zG112 hb)) (zA_ (za (zp zG113 hb)) (zA_ (za (zp zG114 hb)) (zA_ (za (zs (g := gb368) (o := .cells #[.slice Ao11 t359.length co11, .slice Ao13 t362.length co13, .int .i64 t365, .int .i64 t366] 28 (0, 0)) zG103 hb)) (zA_ (za (zs (g := gb378) (o := .cells #[.slice Ao17 t369.length co17, .slice Ao20 t372.length co20, .int .i64 t375, .int .i64 t376] 28 (0, 0)) zG104 hb)) (za (zv zG85 hb)))))))); clear HO_3 HO_369000 HO_369001 HO_379000 HO_379001 BK368 BK378 HB; obtain ⟨HO_3, HO_369000, HO_369001, HO_379000, HO_379001, BK368, BK378, HB⟩ := n_; (try clear hb); have hnb51 := NB368_378.out; have hnc51 := NB378_368.out; obtain ⟨hcz52_0, hcz52_1, hcz52_2, hcz52_3, hfz52_0, hfz52_1, hfz52_2, hfz52_3⟩ := zB4 BK368.out) | (go_at_call 11; (with_reducible refine (impl_RouteOf.calls kj5 _ _ t352 t353 _ _ t359 t392 t395 t398 t399 t400 _ ?side1 ?side2 ?side3 ?side4 A48.out).mono ?_); (case side1 => exact zH61); (case side2 => exact zH109); (case side3 => exact zH56); (case side4 => exact (zw HO_369000.out).2.1); rintro e w53 ⟨v393, v396, rfl, ho0, ho1, hb⟩; have n_ := zA_ (za (zp zG123 hb)) (zA_ (za (zo (zaa (zaa (zaf zG111 hb) (zy ho0)) (zy ho1)) (fun _ h_ => h_.1))) (zA_ (za (zo (zaa (zaa (zaf zG112 hb) (zy ho0)) (zy ho1)) (fun _ h_ => h_.1))) (zA_ (za (zo (zaa (zaa (zaf zG113 hb) (zy ho0)) (zy ho1)) (fun _ h_ => h_.1))) (zA_ (za (zo (zaa (zaa (zaf zG114 hb) (zy ho0)) (zy ho1)) (fun _ h_ => h_.1))) (zA_ (za (zae (zz (zz (zz (zz ho0 (zab zG111)) (zab zG112)) (zab zG113)) (zab zG114)) (zt zG85))) (zA_ (za (zae (zz (zz (zz (zz ho1 (zab zG111)) (zab zG112)) (zab zG113)) (zab zG114)) (zt zG85))) (zA_ (za (zs (g := gb368) (o := .cells #[.slice Ao11 t359.length co11, .slice Ao13 t362.length co13, .int .i64 t365, .int .i64 t366] 28 (0, 0)) zG103 hb)) (zA_ (za (zs (g := gb378) (o := .cells #[.slice Ao17 t369.length co17, .slice Ao20 t372.length co20, .int .i64 t375, .int .i64 t376] 28 (0, 0)) zG104 hb)) (za (zv zG85 hb)))))))))); clear HO_3 HO_369000 HO_369001 HO_379000 HO_379001 BK368 BK378 HB; obtain ⟨HO_3, HO_369000, HO_369001, HO_379000, HO_379001, HO394, HO397, BK368, BK378, HB⟩ := n_; (try clear hb); (try clear ho0); (try clear ho1)) | ((with_reducible refine gate_dst (N := 14) rfl ?_); refine box_event ?hg (N := 14) ?hd (cs := #[.slice none 0 0, .slice none 0 0, .int .i64 0, .int .i64 0]) (t := 28) ?hr ?_; (case hd => rfl); (case hg => rfl); (case hr => exact zH103); intro gb401 hg w54 hbox hb; have n_ := zA_ (za (zp zG123 hb)) (zA_ (za (zp zG111 hb)) (zA_ (za (zp zG112 hb)) (zA_ (za (zp zG113 hb)) (zA_ (za (zp zG114 hb)) (zA_ (za (zp zK215 hb)) (zA_ (za (zp zK216 hb)) (zA_ (za (zs (g := gb368) (o := .cells #[.slice Ao11 t359.length co11, .slice Ao13 t362.length co13, .int .i64 t365, .int .i64 t366] 28 (0, 0)) zG103 hb)) (zA_ (za (zs (g := gb378) (o := .cells #[.slice Ao17 t369.length co17, .slice Ao20 t372.length co20, .int .i64 t375, .int .i64 t376] 28 (0, 0)) zG104 hb)) (zA_ (za (zv zG85 hb)) (zA_ (za (hbox)) (zA_ (zN1 w.heap.size hg (zt zG85)) (zA_ (zN1 w.heap.size hg (zt zG85)) (zN3 hg (zac (g := gb368) (o := .cells #[.slice Ao11 t359.length co11, .slice Ao13 t362.length co13, .int .i64 t365, .int .i64 t366] 28 (0, 0)) zG103) (zN2 hg (zac (g := gb378) (o := .cells #[.slice Ao17 t369.length co17, .slice Ao20 t372.length co20, .int .i64 t375, .int .i64 t376] 28 (0, 0)) zG104))))))))))))))); clear HO_3 HO_369000 HO_369001 HO_379000 HO_379001 HO394 HO397 BK368 BK378 HB; obtain ⟨HO_3, HO_369000, HO_369001, HO_379000, HO_379001, HO394, HO397, BK368, BK378, HB, BK401, GW401, GE401, NB368_401, NB401_368, NB378_401, NB401_378⟩ := n_; clear hb hbox hg; obtain ⟨Ao55, co55, eo55⟩ := zad HO394.out; subst eo55; have hnb56 := NB401_368.out; have hnc56 := NB368_401.out; have hnb57 := NB401_378.out; have hnc57 := NB378_401.out; obtain ⟨hcz58_0, hcz58_1, hcz58_2, hcz58_3, hfz58_0, hfz58_1, hfz58_2, hfz58_3⟩ := zB4 BK401.out; obtain ⟨Ao59, co59, eo59⟩ := zad HO397.out; subst eo59)))
   (try simp only [Act.put, List.setIfInBounds_toArray, List.set_cons_zero, List.set_cons_succ])
   go_cut [140] (fun v140 wc => ∃ (kq : Nat) (x140_48 : Bool), v140 = .bool x140_48 ∧ Aside0 (laws_FnRoute.j1 kq t352 t353 x140_48 t359 t362 t365 t366 = some r) ∧ Aside0 (kq ≤ kj5) ∧ Aside0 (Kd.R k37 37 wc w.heap.size (fun _ => True) (.slice Ao8 t352.length co8) t352) ∧ Aside0 (Kd.R (Kd.int .i64) 3 wc w.heap.size (fun k_ => some k_ ≠ ((.slice Ao13 t362.length co13) : Value).ownBlock ∧ some k_ ≠ ((.slice Ao17 t369.length co17) : Value).ownBlock ∧ some k_ ≠ ((.slice Ao20 t372.length co20) : Value).ownBlock ∧ some k_ ≠ ((.slice Ao55 t392.length co55) : Value).ownBlock ∧ some k_ ≠ ((.slice Ao59 t395.length co59) : Value).ownBlock) (.slice Ao11 t359.length co11) t359) ∧ Aside0 (Kd.R (Kd.int .i64) 3 wc w.heap.size (fun k_ => some k_ ≠ ((.slice Ao11 t359.length co11) : Value).ownBlock ∧ some k_ ≠ ((.slice Ao17 t369.length co17) : Value).ownBlock ∧ some k_ ≠ ((.slice Ao20 t372.length co20) : Value).ownBlock ∧ some k_ ≠ ((.slice Ao55 t392.length co55) : Value).ownBlock ∧ some k_ ≠ ((.slice Ao59 t395.length co59) : Value).ownBlock) (.slice Ao13 t362.length co13) t362) ∧ Aside0 (Kd.R (Kd.int .i64) 3 wc w.heap.size (fun k_ => some k_ ≠ ((.slice Ao11 t359.length co11) : Value).ownBlock ∧ some k_ ≠ ((.slice Ao13 t362.length co13) : Value).ownBlock ∧ some k_ ≠ ((.slice Ao20 t372.length co20) : Value).ownBlock ∧ some k_ ≠ ((.slice Ao55 t392.length co55) : Value).ownBlock ∧ some k_ ≠ ((.slice Ao59 t395.length co59) : Value).ownBlock) (.slice Ao17 t369.length co17) t369) ∧ Aside0 (Kd.R (Kd.int .i64) 3 wc w.heap.size (fun k_ => some k_ ≠ ((.slice Ao11 t359.length co11) : Value).ownBlock ∧ some k_ ≠ ((.slice Ao13 t362.length co13) : Value).ownBlock ∧ some k_ ≠ ((.slice Ao17 t369.length co17) : Value).ownBlock ∧ some k_ ≠ ((.slice Ao55 t392.length co55) : Value).ownBlock ∧ some k_ ≠ ((.slice Ao59 t395.length co59) : Value).ownBlock) (.slice Ao20 t372.length co20) t372) ∧ Aside0 (Kd.R (Kd.int .i64) 3 wc w.heap.size (fun k_ => some k_ ≠ ((.slice Ao11 t359.length co11) : Value).ownBlock ∧ some k_ ≠ ((.slice Ao13 t362.length co13) : Value).ownBlock ∧ some k_ ≠ ((.slice Ao17 t369.length co17) : Value).ownBlock ∧ some k_ ≠ ((.slice Ao20 t372.length co20) : Value).ownBlock ∧ some k_ ≠ ((.slice Ao59 t395.length co59) : Value).ownBlock) (.slice Ao55 t392.length co55) t392) ∧ Aside0 (Kd.R (Kd.int .i64) 3 wc w.heap.size (fun k_ => some k_ ≠ ((.slice Ao11 t359.length co11) : Value).ownBlock ∧ some k_ ≠ ((.slice Ao13 t362.length co13) : Value).ownBlock ∧ some k_ ≠ ((.slice Ao17 t369.length co17) : Value).ownBlock ∧ some k_ ≠ ((.slice Ao20 t372.length co20) : Value).ownBlock ∧ some k_ ≠ ((.slice Ao55 t392.length co55) : Value).ownBlock) (.slice Ao59 t395.length co59) t395) ∧ Aside0 (wc.heap[gb368]? = some (.cells #[(.slice Ao11 t359.length co11), (.slice Ao13 t362.length co13), .int .i64 t365, .int .i64 t366] 28 (0, 0))) ∧ Aside0 (wc.heap[gb378]? = some (.cells #[(.slice Ao17 t369.length co17), (.slice Ao20 t372.length co20), .int .i64 t375, .int .i64 t376] 28 (0, 0))) ∧ Aside0 (wc.heap[gb401]? = some (.cells #[(.slice Ao55 t392.length co55), (.slice Ao59 t395.length co59), .int .i64 t398, .int .i64 t399] 28 (0, 0))) ∧ Aside0 (Below w.heap.size w wc))
   case first =>
    have H := HC49.out
    clear HC49
    by_cases c60 : t391 = 0
    rotate_left
    ·rw [if_neg c60] at H
     have c60b0 : (t391 == 0) = false := beq_eq_false_iff_ne.mpr c60
     have c60b1 : (t391 != 0) = true := bne_iff_ne.mpr c60
     (first | rw [c60b0] | (simp only [i64_w, i32_w]; rw [c60b0]) | skip)
     have H' := za H
     clear H
     go_wp2
     repeat (go_quiet (fail); try go_wp2)
     go_meet
     case rel => exact ⟨_, (true), zG124, H', ⟨zH100⟩, ⟨zH18⟩, ⟨zH12⟩, ⟨zH13⟩, ⟨zH14⟩, ⟨zH15⟩, ⟨zH16⟩, ⟨zH17⟩, ⟨zH4⟩, ⟨zH5⟩, ⟨zH1⟩, ⟨zH45⟩⟩
    rw [if_pos c60] at H
    have c60b0 : (t391 == 0) = true := beq_iff_eq.mpr c60
    have c60b1 : (t391 != 0) = false := bne_eq_false_iff_eq.mpr c60
    clear c60
    (first | rw [c60b0] | (simp only [i64_w, i32_w]; rw [c60b0]) | skip)
    by_cases c61 : t400 = 0
    rotate_left
    ·rw [if_neg c61] at H
     have c61b0 : (t400 == 0) = false := beq_eq_false_iff_ne.mpr c61
     have c61b1 : (t400 != 0) = true := bne_iff_ne.mpr c61
     have H' := za H
     clear H
     go_wp2
     repeat (go_quiet (fail); try go_wp2)
     go_meet
     case rel => exact ⟨_, (true), zG124, H', ⟨zH100⟩, ⟨zH18⟩, ⟨zH12⟩, ⟨zH13⟩, ⟨zH14⟩, ⟨zH15⟩, ⟨zH16⟩, ⟨zH17⟩, ⟨zH4⟩, ⟨zH5⟩, ⟨zH1⟩, ⟨zH45⟩⟩
    rw [if_pos c61] at H
    have c61b0 : (t400 == 0) = true := beq_iff_eq.mpr c61
    have c61b1 : (t400 != 0) = false := bne_eq_false_iff_eq.mpr c61
    clear c61
    by_cases c62 : t399 = t366
    rotate_left
    ·rw [if_neg c62] at H
     have c62b0 : (t399 == t366) = false := beq_eq_false_iff_ne.mpr c62
     have c62b1 : (t399 != t366) = true := bne_iff_ne.mpr c62
     have H' := za H
     clear H
     have hnb94 := NB401_368.out
     have hnc94 := NB368_401.out
     have hnb95 := NB401_378.out
     have hnc95 := NB378_401.out
     obtain ⟨hcz96_0, hcz96_1, hcz96_2, hcz96_3, hfz96_0, hfz96_1, hfz96_2, hfz96_3⟩ := zB4 BK401.out
     have hnb97 := NB368_378.out
     have hnc97 := NB378_368.out
     obtain ⟨hcz98_0, hcz98_1, hcz98_2, hcz98_3, hfz98_0, hfz98_1, hfz98_2, hfz98_3⟩ := zB4 BK368.out
     go_wp2
     repeat (go_quiet (fail); try go_wp2)
     go_meet
     case rel => exact ⟨_, (true), zG124, H', ⟨zH100⟩, ⟨zH18⟩, ⟨zH12⟩, ⟨zH13⟩, ⟨zH14⟩, ⟨zH15⟩, ⟨zH16⟩, ⟨zH17⟩, ⟨zH4⟩, ⟨zH5⟩, ⟨zH1⟩, ⟨zH45⟩⟩
    rw [if_pos c62] at H
    have c62b0 : (t399 == t366) = true := beq_iff_eq.mpr c62
    have c62b1 : (t399 != t366) = false := bne_eq_false_iff_eq.mpr c62
    clear c62
    by_cases c63 : t398 = t365
    rotate_left
    ·rw [if_neg c63] at H
     have c63b0 : (t398 == t365) = false := beq_eq_false_iff_ne.mpr c63
     have c63b1 : (t398 != t365) = true := bne_iff_ne.mpr c63
     have H' := za H
     clear H
     have hnb89 := NB401_368.out
     have hnc89 := NB368_401.out
     have hnb90 := NB401_378.out
     have hnc90 := NB378_401.out
     obtain ⟨hcz91_0, hcz91_1, hcz91_2, hcz91_3, hfz91_0, hfz91_1, hfz91_2, hfz91_3⟩ := zB4 BK401.out
     have hnb92 := NB368_378.out
     have hnc92 := NB378_368.out
     obtain ⟨hcz93_0, hcz93_1, hcz93_2, hcz93_3, hfz93_0, hfz93_1, hfz93_2, hfz93_3⟩ := zB4 BK368.out
     go_wp2
     repeat (go_quiet (fail); try go_wp2)
     go_meet
     case rel => exact ⟨_, (true), zG124, H', ⟨zH100⟩, ⟨zH18⟩, ⟨zH12⟩, ⟨zH13⟩, ⟨zH14⟩, ⟨zH15⟩, ⟨zH16⟩, ⟨zH17⟩, ⟨zH4⟩, ⟨zH5⟩, ⟨zH1⟩, ⟨zH45⟩⟩
    rw [if_pos c63] at H
    have c63b0 : (t398 == t365) = true := beq_iff_eq.mpr c63
    have c63b1 : (t398 != t365) = false := bne_eq_false_iff_eq.mpr c63
    clear c63
    replace H := Option.bind_eq_some_iff.mp H
    obtain ⟨t402, A640, H⟩ := H
    replace H : (if t402 = true then (if t366 < t390 then (laws_FnRoute.j1 kj5 t352 t353 true t359 t362 t365 t366) else (if t377 = 0 then (laws_FnRoute.j1 kj5 t352 t353 (decide (t366 > t376)) t359 t362 t365 t366) else (laws_FnRoute.j1 kj5 t352 t353 false t359 t362 t365 t366))) else (laws_FnRoute.j1 kj5 t352 t353 true t359 t362 t365 t366)) = some r := H
    have A64 := za A640
    clear A640
    by_cases c65 : t402 = true
    rotate_left
    ·replace c65 := Bool.eq_false_iff.mpr c65
     subst c65
     have H1 : (laws_FnRoute.j1 kj5 t352 t353 true t359 t362 t365 t366) = some r := by rw [if_neg (show ¬ (false = true) by decide)] at H; exact H
     clear H
     have H := H1
     clear H1
     have H' := za H
     clear H
     have hnb84 := NB401_368.out
     have hnc84 := NB368_401.out
     have hnb85 := NB401_378.out
     have hnc85 := NB378_401.out
     obtain ⟨hcz86_0, hcz86_1, hcz86_2, hcz86_3, hfz86_0, hfz86_1, hfz86_2, hfz86_3⟩ := zB4 BK401.out
     have hnb87 := NB368_378.out
     have hnc87 := NB378_368.out
     obtain ⟨hcz88_0, hcz88_1, hcz88_2, hcz88_3, hfz88_0, hfz88_1, hfz88_2, hfz88_3⟩ := zB4 BK368.out
     go_wp2_with (first | (go_at_call 15; (with_reducible refine (laws_sameInts.calls kj5 _ _ t395 _ _ t362 false _ ?side1 ?side2 ?side3 ?side4 A64.out).mono ?_); (case side1 => exact zH19); (case side2 => exact zH107); (case side3 => exact zH20); (case side4 => exact zH105); rintro e w' ⟨rfl, ⟨nd, rfl⟩⟩; (try first | exact ⟨rfl, _, World.drewN_drewN _ _ _⟩ | exact ⟨rfl, _, Eq.trans (World.drewN_drewN _ _ _) (congrArg (World.drewN _) (Nat.add_assoc _ _ _))⟩)))
     repeat (go_quiet (first | (go_at_call 15; (with_reducible refine (laws_sameInts.calls kj5 _ _ t395 _ _ t362 false _ ?side1 ?side2 ?side3 ?side4 A64.out).mono ?_); (case side1 => exact zH19); (case side2 => exact zH107); (case side3 => exact zH20); (case side4 => exact zH105); rintro e w' ⟨rfl, ⟨nd, rfl⟩⟩; (try first | exact ⟨rfl, _, World.drewN_drewN _ _ _⟩ | exact ⟨rfl, _, Eq.trans (World.drewN_drewN _ _ _) (congrArg (World.drewN _) (Nat.add_assoc _ _ _))⟩))); try go_wp2_with (first | (go_at_call 15; (with_reducible refine (laws_sameInts.calls kj5 _ _ t395 _ _ t362 false _ ?side1 ?side2 ?side3 ?side4 A64.out).mono ?_); (case side1 => exact zH19); (case side2 => exact zH107); (case side3 => exact zH20); (case side4 => exact zH105); rintro e w' ⟨rfl, ⟨nd, rfl⟩⟩; (try first | exact ⟨rfl, _, World.drewN_drewN _ _ _⟩ | exact ⟨rfl, _, Eq.trans (World.drewN_drewN _ _ _) (congrArg (World.drewN _) (Nat.add_assoc _ _ _))⟩))))
     go_meet
     case rel => exact ⟨_, (true), zG124, H', ⟨zH100⟩, ⟨zH18⟩, ⟨zH12⟩, ⟨zH13⟩, ⟨zH14⟩, ⟨zH15⟩, ⟨zH16⟩, ⟨zH17⟩, ⟨zH4⟩, ⟨zH5⟩, ⟨zH1⟩, ⟨zH45⟩⟩
    subst c65
    have H1 : (if t366 < t390 then (laws_FnRoute.j1 kj5 t352 t353 true t359 t362 t365 t366) else (if t377 = 0 then (laws_FnRoute.j1 kj5 t352 t353 (decide (t366 > t376)) t359 t362 t365 t366) else (laws_FnRoute.j1 kj5 t352 t353 false t359 t362 t365 t366))) = some r := by rw [if_pos rfl] at H; exact H
    clear H
    have H := H1
    clear H1
    by_cases c66 : t366 < t390
    ·rw [if_pos c66] at H
     have c66b0 := decide_eq_true c66
     clear c66
     have H' := za H
     clear H
     have hnb67 := NB401_368.out
     have hnc67 := NB368_401.out
     have hnb68 := NB401_378.out
     have hnc68 := NB378_401.out
     obtain ⟨hcz69_0, hcz69_1, hcz69_2, hcz69_3, hfz69_0, hfz69_1, hfz69_2, hfz69_3⟩ := zB4 BK401.out
     have hnb70 := NB368_378.out
     have hnc70 := NB378_368.out
     obtain ⟨hcz71_0, hcz71_1, hcz71_2, hcz71_3, hfz71_0, hfz71_1, hfz71_2, hfz71_3⟩ := zB4 BK368.out
     go_wp2_with (first | (go_at_call 15; (with_reducible refine (laws_sameInts.calls kj5 _ _ t395 _ _ t362 true _ ?side1 ?side2 ?side3 ?side4 A64.out).mono ?_); (case side1 => exact zH19); (case side2 => exact zH107); (case side3 => exact zH20); (case side4 => exact zH105); rintro e w' ⟨rfl, ⟨nd, rfl⟩⟩; (try first | exact ⟨rfl, _, World.drewN_drewN _ _ _⟩ | exact ⟨rfl, _, Eq.trans (World.drewN_drewN _ _ _) (congrArg (World.drewN _) (Nat.add_assoc _ _ _))⟩)))
     repeat (go_quiet (first | (go_at_call 15; (with_reducible refine (laws_sameInts.calls kj5 _ _ t395 _ _ t362 true _ ?side1 ?side2 ?side3 ?side4 A64.out).mono ?_); (case side1 => exact zH19); (case side2 => exact zH107); (case side3 => exact zH20); (case side4 => exact zH105); rintro e w' ⟨rfl, ⟨nd, rfl⟩⟩; (try first | exact ⟨rfl, _, World.drewN_drewN _ _ _⟩ | exact ⟨rfl, _, Eq.trans (World.drewN_drewN _ _ _) (congrArg (World.drewN _) (Nat.add_assoc _ _ _))⟩))); try go_wp2_with (first | (go_at_call 15; (with_reducible refine (laws_sameInts.calls kj5 _ _ t395 _ _ t362 true _ ?side1 ?side2 ?side3 ?side4 A64.out).mono ?_); (case side1 => exact zH19); (case side2 => exact zH107); (case side3 => exact zH20); (case side4 => exact zH105); rintro e w' ⟨rfl, ⟨nd, rfl⟩⟩; (try first | exact ⟨rfl, _, World.drewN_drewN _ _ _⟩ | exact ⟨rfl, _, Eq.trans (World.drewN_drewN _ _ _) (congrArg (World.drewN _) (Nat.add_assoc _ _ _))⟩))))
     go_meet
     case rel => exact ⟨_, (true), zG124, H', ⟨zH100⟩, ⟨zH18⟩, ⟨zH12⟩, ⟨zH13⟩, ⟨zH14⟩, ⟨zH15⟩, ⟨zH16⟩, ⟨zH17⟩, ⟨zH4⟩, ⟨zH5⟩, ⟨zH1⟩, ⟨zH45⟩⟩
    rw [if_neg c66] at H
    have c66b0 := decide_eq_false c66
    clear c66
    by_cases c72 : t377 = 0
    rotate_left
    ·rw [if_neg c72] at H
     have c72b0 : (t377 == 0) = false := beq_eq_false_iff_ne.mpr c72
     have c72b1 : (t377 != 0) = true := bne_iff_ne.mpr c72
     have H' := za H
     clear H
     have hnb79 := NB401_368.out
     have hnc79 := NB368_401.out
     have hnb80 := NB401_378.out
     have hnc80 := NB378_401.out
     obtain ⟨hcz81_0, hcz81_1, hcz81_2, hcz81_3, hfz81_0, hfz81_1, hfz81_2, hfz81_3⟩ := zB4 BK401.out
     have hnb82 := NB368_378.out
     have hnc82 := NB378_368.out
     obtain ⟨hcz83_0, hcz83_1, hcz83_2, hcz83_3, hfz83_0, hfz83_1, hfz83_2, hfz83_3⟩ := zB4 BK368.out
     go_wp2_with (first | (go_at_call 15; (with_reducible refine (laws_sameInts.calls kj5 _ _ t395 _ _ t362 true _ ?side1 ?side2 ?side3 ?side4 A64.out).mono ?_); (case side1 => exact zH19); (case side2 => exact zH107); (case side3 => exact zH20); (case side4 => exact zH105); rintro e w' ⟨rfl, ⟨nd, rfl⟩⟩; (try first | exact ⟨rfl, _, World.drewN_drewN _ _ _⟩ | exact ⟨rfl, _, Eq.trans (World.drewN_drewN _ _ _) (congrArg (World.drewN _) (Nat.add_assoc _ _ _))⟩)))
     repeat (go_quiet (first | (go_at_call 15; (with_reducible refine (laws_sameInts.calls kj5 _ _ t395 _ _ t362 true _ ?side1 ?side2 ?side3 ?side4 A64.out).mono ?_); (case side1 => exact zH19); (case side2 => exact zH107); (case side3 => exact zH20); (case side4 => exact zH105); rintro e w' ⟨rfl, ⟨nd, rfl⟩⟩; (try first | exact ⟨rfl, _, World.drewN_drewN _ _ _⟩ | exact ⟨rfl, _, Eq.trans (World.drewN_drewN _ _ _) (congrArg (World.drewN _) (Nat.add_assoc _ _ _))⟩))); try go_wp2_with (first | (go_at_call 15; (with_reducible refine (laws_sameInts.calls kj5 _ _ t395 _ _ t362 true _ ?side1 ?side2 ?side3 ?side4 A64.out).mono ?_); (case side1 => exact zH19); (case side2 => exact zH107); (case side3 => exact zH20); (case side4 => exact zH105); rintro e w' ⟨rfl, ⟨nd, rfl⟩⟩; (try first | exact ⟨rfl, _, World.drewN_drewN _ _ _⟩ | exact ⟨rfl, _, Eq.trans (World.drewN_drewN _ _ _) (congrArg (World.drewN _) (Nat.add_assoc _ _ _))⟩))))
     go_meet
     case rel => exact ⟨_, (false), zG124, H', ⟨zH100⟩, ⟨zH18⟩, ⟨zH12⟩, ⟨zH13⟩, ⟨zH14⟩, ⟨zH15⟩, ⟨zH16⟩, ⟨zH17⟩, ⟨zH4⟩, ⟨zH5⟩, ⟨zH1⟩, ⟨zH45⟩⟩
    rw [if_pos c72] at H
    have c72b0 : (t377 == 0) = true := beq_iff_eq.mpr c72
    have c72b1 : (t377 != 0) = false := bne_eq_false_iff_eq.mpr c72
    clear c72
    have H' := za H
    clear H
    have hnb73 := NB401_368.out
    have hnc73 := NB368_401.out
    have hnb74 := NB401_378.out
    have hnc74 := NB378_401.out
    obtain ⟨hcz75_0, hcz75_1, hcz75_2, hcz75_3, hfz75_0, hfz75_1, hfz75_2, hfz75_3⟩ := zB4 BK401.out
    have hnb76 := NB368_378.out
    have hnc76 := NB378_368.out
    obtain ⟨hcz77_0, hcz77_1, hcz77_2, hcz77_3, hfz77_0, hfz77_1, hfz77_2, hfz77_3⟩ := zB4 BK368.out
    go_wp2_with (first | (go_at_call 15; (with_reducible refine (laws_sameInts.calls kj5 _ _ t395 _ _ t362 true _ ?side1 ?side2 ?side3 ?side4 A64.out).mono ?_); (case side1 => exact zH19); (case side2 => exact zH107); (case side3 => exact zH20); (case side4 => exact zH105); rintro e w' ⟨rfl, ⟨nd, rfl⟩⟩; (try first | exact ⟨rfl, _, World.drewN_drewN _ _ _⟩ | exact ⟨rfl, _, Eq.trans (World.drewN_drewN _ _ _) (congrArg (World.drewN _) (Nat.add_assoc _ _ _))⟩); obtain ⟨hcz78_0, hcz78_1, hcz78_2, hcz78_3, hfz78_0, hfz78_1, hfz78_2, hfz78_3⟩ := zB4 BK378.out))
    repeat (go_quiet (first | (go_at_call 15; (with_reducible refine (laws_sameInts.calls kj5 _ _ t395 _ _ t362 true _ ?side1 ?side2 ?side3 ?side4 A64.out).mono ?_); (case side1 => exact zH19); (case side2 => exact zH107); (case side3 => exact zH20); (case side4 => exact zH105); rintro e w' ⟨rfl, ⟨nd, rfl⟩⟩; (try first | exact ⟨rfl, _, World.drewN_drewN _ _ _⟩ | exact ⟨rfl, _, Eq.trans (World.drewN_drewN _ _ _) (congrArg (World.drewN _) (Nat.add_assoc _ _ _))⟩); obtain ⟨hcz78_0, hcz78_1, hcz78_2, hcz78_3, hfz78_0, hfz78_1, hfz78_2, hfz78_3⟩ := zB4 BK378.out)); try go_wp2_with (first | (go_at_call 15; (with_reducible refine (laws_sameInts.calls kj5 _ _ t395 _ _ t362 true _ ?side1 ?side2 ?side3 ?side4 A64.out).mono ?_); (case side1 => exact zH19); (case side2 => exact zH107); (case side3 => exact zH20); (case side4 => exact zH105); rintro e w' ⟨rfl, ⟨nd, rfl⟩⟩; (try first | exact ⟨rfl, _, World.drewN_drewN _ _ _⟩ | exact ⟨rfl, _, Eq.trans (World.drewN_drewN _ _ _) (congrArg (World.drewN _) (Nat.add_assoc _ _ _))⟩); obtain ⟨hcz78_0, hcz78_1, hcz78_2, hcz78_3, hfz78_0, hfz78_1, hfz78_2, hfz78_3⟩ := zB4 BK378.out)))
    go_meet
    case rel => exact ⟨_, (decide (t366 > t376)), zG124, H', ⟨zH100⟩, ⟨zH18⟩, ⟨zH12⟩, ⟨zH13⟩, ⟨zH14⟩, ⟨zH15⟩, ⟨zH16⟩, ⟨zH17⟩, ⟨zH4⟩, ⟨zH5⟩, ⟨zH1⟩, ⟨zH45⟩⟩
   case rest =>
    clear HC49
    try clear c2
    try clear c2b0
    try clear c2b1
    try clear c22
    try clear c23
    try clear c23b0
    try clear c23b1
    try clear c24
    try clear c24b0
    try clear c24b1
    try clear c26
    try clear c26b0
    try clear c26b1
    try clear c29
    try clear c29b0
    try clear c29b1
    try clear c30
    try clear c30b0
    try clear c30b1
    try clear c32
    try clear c32b0
    try clear c32b1
    try clear c37
    try clear c38
    try clear c38b0
    try clear c38b1
    try clear c60
    try clear c60b0
    try clear c60b1
    try clear c61
    try clear c61b0
    try clear c61b1
    try clear c62
    try clear c62b0
    try clear c62b1
    try clear c63
    try clear c63b0
    try clear c63b1
    try clear c65
    try clear c66
    try clear c66b0
    try clear c72
    try clear c72b0
    try clear c72b1
    try clear hcz12_0
    try clear hcz12_1
    try clear hcz12_2
    try clear hcz12_3
    try clear hcz19_0
    try clear hcz19_1
    try clear hcz19_2
    try clear hcz19_3
    try clear hcz45_0
    try clear hcz45_1
    try clear hcz45_2
    try clear hcz45_3
    try clear hcz52_0
    try clear hcz52_1
    try clear hcz52_2
    try clear hcz52_3
    try clear hcz58_0
    try clear hcz58_1
    try clear hcz58_2
    try clear hcz58_3
    try clear hcz69_0
    try clear hcz69_1
    try clear hcz69_2
    try clear hcz69_3
    try clear hcz71_0
    try clear hcz71_1
    try clear hcz71_2
    try clear hcz71_3
    try clear hcz75_0
    try clear hcz75_1
    try clear hcz75_2
    try clear hcz75_3
    try clear hcz77_0
    try clear hcz77_1
    try clear hcz77_2
    try clear hcz77_3
    try clear hcz78_0
    try clear hcz78_1
    try clear hcz78_2
    try clear hcz78_3
    try clear hcz81_0
    try clear hcz81_1
    try clear hcz81_2
    try clear hcz81_3
    try clear hcz83_0
    try clear hcz83_1
    try clear hcz83_2
    try clear hcz83_3
    try clear hcz86_0
    try clear hcz86_1
    try clear hcz86_2
    try clear hcz86_3
    try clear hcz88_0
    try clear hcz88_1
    try clear hcz88_2
    try clear hcz88_3
    try clear hcz91_0
    try clear hcz91_1
    try clear hcz91_2
    try clear hcz91_3
    try clear hcz93_0
    try clear hcz93_1
    try clear hcz93_2
    try clear hcz93_3
    try clear hcz96_0
    try clear hcz96_1
    try clear hcz96_2
    try clear hcz96_3
    try clear hcz98_0
    try clear hcz98_1
    try clear hcz98_2
    try clear hcz98_3
    try clear hfz12_0
    try clear hfz12_1
    try clear hfz12_2
    try clear hfz12_3
    try clear hfz19_0
    try clear hfz19_1
    try clear hfz19_2
    try clear hfz19_3
    try clear hfz45_0
    try clear hfz45_1
    try clear hfz45_2
    try clear hfz45_3
    try clear hfz52_0
    try clear hfz52_1
    try clear hfz52_2
    try clear hfz52_3
    try clear hfz58_0
    try clear hfz58_1
    try clear hfz58_2
    try clear hfz58_3
    try clear hfz69_0
    try clear hfz69_1
    try clear hfz69_2
    try clear hfz69_3
    try clear hfz71_0
    try clear hfz71_1
    try clear hfz71_2
    try clear hfz71_3
    try clear hfz75_0
    try clear hfz75_1
    try clear hfz75_2
    try clear hfz75_3
    try clear hfz77_0
    try clear hfz77_1
    try clear hfz77_2
    try clear hfz77_3
    try clear hfz78_0
    try clear hfz78_1
    try clear hfz78_2
    try clear hfz78_3
    try clear hfz81_0
    try clear hfz81_1
    try clear hfz81_2
    try clear hfz81_3
    try clear hfz83_0
    try clear hfz83_1
    try clear hfz83_2
    try clear hfz83_3
    try clear hfz86_0
    try clear hfz86_1
    try clear hfz86_2
    try clear hfz86_3
    try clear hfz88_0
    try clear hfz88_1
    try clear hfz88_2
    try clear hfz88_3
    try clear hfz91_0
    try clear hfz91_1
    try clear hfz91_2
    try clear hfz91_3
    try clear hfz93_0
    try clear hfz93_1
    try clear hfz93_2
    try clear hfz93_3
    try clear hfz96_0
    try clear hfz96_1
    try clear hfz96_2
    try clear hfz96_3
    try clear hfz98_0
    try clear hfz98_1
    try clear hfz98_2
    try clear hfz98_3
    obtain ⟨kq, x140_48, rfl, HA, HJ48, HO_3, HO_369000, HO_369001, HO_379000, HO_379001, HO_402000, HO_402001, BK368, BK378, BK401, HB⟩ := hcut
    cases kq with
    | zero => exact absurd HA.out (by simp [laws_FnRoute.j1])
    | succ kj48 =>
     have H := HA.out
     clear HA
     simp only [laws_FnRoute.j1] at H
     by_cases c99 : x140_48 = true
     ·subst c99
      have H1 : (some false) = some r := by rw [if_pos rfl] at H; exact H
      clear H
      have H := H1
      clear H1
      obtain rfl := Option.some.inj H
      go_wp2
      repeat (go_quiet (fail); try go_wp2)
      go_ret
      exact ⟨zH92, zH45⟩
     replace c99 := Bool.eq_false_iff.mpr c99
     subst c99
     have H1 : (laws_FnRoute.l0 kj48 t352 t353 (([] : List (S37))) 0 t359 t362 t365 t366) = some r := by rw [if_neg (show ¬ (false = true) by decide)] at H; exact H
     clear H
     have H := H1
     clear H1
     obtain ⟨y403, hy403⟩ : ∃ y_ : List (S37), y_ = (([] : List (S37))) := ⟨_, rfl⟩
     replace H : (laws_FnRoute.l0 kj48 t352 t353 y403 0 t359 t362 t365 t366) = some r := by first | (rw [hy403]; with_reducible exact H) | (have H2_ := (Option.bind_some _ _).symm.trans H; rw [hy403]; with_reducible exact H2_) | (have H2_ := (Option.bind_some _ _).symm.trans H; with_reducible exact H2_) | with_reducible exact H | (rw [hy403]; exact H) | exact H
     have Ny403 := za hy403
     clear hy403
     have H' := za H
     clear H
     go_wp2_with (first | ((with_reducible refine gate_dst (N := 141) rfl ?_); refine zbg k37 _ 37 ?hg (N := 141) ?hd (xs := ([] : List (S37))) (inner := []) (ok := fun _ => True) (okp := fun _ => True) ?hr ?hp (fun _ hk => hk) trivial (Below.refl _ _) (Nat.le_refl _) (by simp) ?_; (case hd => rfl); (case hg => rfl); (case hr => exact zH103); (case hp => exact (Reps.none _ _)); intro v404 w100 ho101 hb hg_ hnew_; clear hg_ hnew_; (first | rw [← Ny403.out] at ho101 | (simp only [Int.reduceToNat] at ho101; rw [← Ny403.out] at ho101)); have n_ := zA_ (za (zbc zG123 (zy ho101) hb)) (zA_ (za (zp zG111 hb)) (zA_ (za (zp zG112 hb)) (zA_ (za (zp zG113 hb)) (zA_ (za (zp zG114 hb)) (zA_ (za (zp zG115 hb)) (zA_ (za (zp zG116 hb)) (zA_ (za (zae (zz ho101 (zab zG123)) (zt zG83))) (zA_ (za (zs (g := gb368) (o := .cells #[.slice Ao11 t359.length co11, .slice Ao13 t362.length co13, .int .i64 t365, .int .i64 t366] 28 (0, 0)) zG103 hb)) (zA_ (za (zs (g := gb378) (o := .cells #[.slice Ao17 t369.length co17, .slice Ao20 t372.length co20, .int .i64 t375, .int .i64 t376] 28 (0, 0)) zG104 hb)) (zA_ (za (zs (g := gb401) (o := .cells #[.slice Ao55 t392.length co55, .slice Ao59 t395.length co59, .int .i64 t398, .int .i64 t399] 28 (0, 0)) zG105 hb)) (za (zv zG83 hb)))))))))))); clear HO_3 HO_369000 HO_369001 HO_379000 HO_379001 HO_402000 HO_402001 BK368 BK378 BK401 HB; obtain ⟨HO_3, HO_369000, HO_369001, HO_379000, HO_379001, HO_402000, HO_402001, HO405, BK368, BK378, BK401, HB⟩ := n_; clear hb ho101))
     repeat (go_quiet (fail); try go_wp2_with (first | ((with_reducible refine gate_dst (N := 141) rfl ?_); refine zbg k37 _ 37 ?hg (N := 141) ?hd (xs := ([] : List (S37))) (inner := []) (ok := fun _ => True) (okp := fun _ => True) ?hr ?hp (fun _ hk => hk) trivial (Below.refl _ _) (Nat.le_refl _) (by simp) ?_; (case hd => rfl); (case hg => rfl); (case hr => exact zH103); (case hp => exact (Reps.none _ _)); intro v404 w100 ho101 hb hg_ hnew_; clear hg_ hnew_; (first | rw [← Ny403.out] at ho101 | (simp only [Int.reduceToNat] at ho101; rw [← Ny403.out] at ho101)); have n_ := zA_ (za (zbc zG123 (zy ho101) hb)) (zA_ (za (zp zG111 hb)) (zA_ (za (zp zG112 hb)) (zA_ (za (zp zG113 hb)) (zA_ (za (zp zG114 hb)) (zA_ (za (zp zG115 hb)) (zA_ (za (zp zG116 hb)) (zA_ (za (zae (zz ho101 (zab zG123)) (zt zG83))) (zA_ (za (zs (g := gb368) (o := .cells #[.slice Ao11 t359.length co11, .slice Ao13 t362.length co13, .int .i64 t365, .int .i64 t366] 28 (0, 0)) zG103 hb)) (zA_ (za (zs (g := gb378) (o := .cells #[.slice Ao17 t369.length co17, .slice Ao20 t372.length co20, .int .i64 t375, .int .i64 t376] 28 (0, 0)) zG104 hb)) (zA_ (za (zs (g := gb401) (o := .cells #[.slice Ao55 t392.length co55, .slice Ao59 t395.length co59, .int .i64 t398, .int .i64 t399] 28 (0, 0)) zG105 hb)) (za (zv zG83 hb)))))))))))); clear HO_3 HO_369000 HO_369001 HO_379000 HO_379001 HO_402000 HO_402001 BK368 BK378 BK401 HB; obtain ⟨HO_3, HO_369000, HO_369001, HO_379000, HO_379001, HO_402000, HO_402001, HO405, BK368, BK378, BK401, HB⟩ := n_; clear hb ho101)))
     go_loopg [16, 17] kj48 (fun kq v16 v17 w' => ∃ (x16_3 : List (S37)) (x17_3 : Int), v17 = .int .i64 x17_3 ∧ Aside0 (laws_FnRoute.l0 kq t352 t353 x16_3 x17_3 t359 t362 t365 t366 = some r) ∧ Aside0 (kq ≤ kj48) ∧ Aside0 (Kd.R k37 37 w' w.heap.size (fun k_ => some k_ ≠ (v16 : Value).ownBlock) (.slice Ao8 t352.length co8) t352) ∧ Aside0 (Kd.R k37 37 w' w.heap.size (fun k_ => some k_ ≠ ((.slice Ao8 t352.length co8) : Value).ownBlock) v16 x16_3) ∧ Aside0 (Kd.R (Kd.int .i64) 3 w' w.heap.size (fun k_ => some k_ ≠ ((.slice Ao13 t362.length co13) : Value).ownBlock ∧ some k_ ≠ ((.slice Ao17 t369.length co17) : Value).ownBlock ∧ some k_ ≠ ((.slice Ao20 t372.length co20) : Value).ownBlock ∧ some k_ ≠ ((.slice Ao55 t392.length co55) : Value).ownBlock ∧ some k_ ≠ ((.slice Ao59 t395.length co59) : Value).ownBlock) (.slice Ao11 t359.length co11) t359) ∧ Aside0 (Kd.R (Kd.int .i64) 3 w' w.heap.size (fun k_ => some k_ ≠ ((.slice Ao11 t359.length co11) : Value).ownBlock ∧ some k_ ≠ ((.slice Ao17 t369.length co17) : Value).ownBlock ∧ some k_ ≠ ((.slice Ao20 t372.length co20) : Value).ownBlock ∧ some k_ ≠ ((.slice Ao55 t392.length co55) : Value).ownBlock ∧ some k_ ≠ ((.slice Ao59 t395.length co59) : Value).ownBlock) (.slice Ao13 t362.length co13) t362) ∧ Aside0 (Kd.R (Kd.int .i64) 3 w' w.heap.size (fun k_ => some k_ ≠ ((.slice Ao11 t359.length co11) : Value).ownBlock ∧ some k_ ≠ ((.slice Ao13 t362.length co13) : Value).ownBlock ∧ some k_ ≠ ((.slice Ao20 t372.length co20) : Value).ownBlock ∧ some k_ ≠ ((.slice Ao55 t392.length co55) : Value).ownBlock ∧ some k_ ≠ ((.slice Ao59 t395.length co59) : Value).ownBlock) (.slice Ao17 t369.length co17) t369) ∧ Aside0 (Kd.R (Kd.int .i64) 3 w' w.heap.size (fun k_ => some k_ ≠ ((.slice Ao11 t359.length co11) : Value).ownBlock ∧ some k_ ≠ ((.slice Ao13 t362.length co13) : Value).ownBlock ∧ some k_ ≠ ((.slice Ao17 t369.length co17) : Value).ownBlock ∧ some k_ ≠ ((.slice Ao55 t392.length co55) : Value).ownBlock ∧ some k_ ≠ ((.slice Ao59 t395.length co59) : Value).ownBlock) (.slice Ao20 t372.length co20) t372) ∧ Aside0 (Kd.R (Kd.int .i64) 3 w' w.heap.size (fun k_ => some k_ ≠ ((.slice Ao11 t359.length co11) : Value).ownBlock ∧ some k_ ≠ ((.slice Ao13 t362.length co13) : Value).ownBlock ∧ some k_ ≠ ((.slice Ao17 t369.length co17) : Value).ownBlock ∧ some k_ ≠ ((.slice Ao20 t372.length co20) : Value).ownBlock ∧ some k_ ≠ ((.slice Ao59 t395.length co59) : Value).ownBlock) (.slice Ao55 t392.length co55) t392) ∧ Aside0 (Kd.R (Kd.int .i64) 3 w' w.heap.size (fun k_ => some k_ ≠ ((.slice Ao11 t359.length co11) : Value).ownBlock ∧ some k_ ≠ ((.slice Ao13 t362.length co13) : Value).ownBlock ∧ some k_ ≠ ((.slice Ao17 t369.length co17) : Value).ownBlock ∧ some k_ ≠ ((.slice Ao20 t372.length co20) : Value).ownBlock ∧ some k_ ≠ ((.slice Ao55 t392.length co55) : Value).ownBlock) (.slice Ao59 t395.length co59) t395) ∧ Aside0 (w'.heap[gb368]? = some (.cells #[(.slice Ao11 t359.length co11), (.slice Ao13 t362.length co13), .int .i64 t365, .int .i64 t366] 28 (0, 0))) ∧ Aside0 (w'.heap[gb378]? = some (.cells #[(.slice Ao17 t369.length co17), (.slice Ao20 t372.length co20), .int .i64 t375, .int .i64 t376] 28 (0, 0))) ∧ Aside0 (w'.heap[gb401]? = some (.cells #[(.slice Ao55 t392.length co55), (.slice Ao59 t395.length co59), .int .i64 t398, .int .i64 t399] 28 (0, 0))) ∧ Aside0 (Below w.heap.size w w'))
     case atStart => exact ⟨(y403), (0), zG124, H', ⟨Nat.le_refl _⟩, ⟨by (with_reducible repeat (first | apply zf | apply zg | apply zh)); exact zo HO_3.out (fun _ hk => hk.2)⟩, ⟨by (with_reducible repeat (first | apply zf | apply zg | apply zh)); exact zo HO405.out (fun _ hk => hk.2)⟩, ⟨by (with_reducible repeat (first | apply zf | apply zg | apply zh)); exact HO_369000.out⟩, ⟨by (with_reducible repeat (first | apply zf | apply zg | apply zh)); exact HO_369001.out⟩, ⟨by (with_reducible repeat (first | apply zf | apply zg | apply zh)); exact HO_379000.out⟩, ⟨by (with_reducible repeat (first | apply zf | apply zg | apply zh)); exact HO_379001.out⟩, ⟨by (with_reducible repeat (first | apply zf | apply zg | apply zh)); exact HO_402000.out⟩, ⟨by (with_reducible repeat (first | apply zf | apply zg | apply zh)); exact HO_402001.out⟩, ⟨zH85⟩, ⟨zH86⟩, ⟨by (with_reducible repeat (first | refine zc ?_ _ | refine ze ?_ | refine zb ?_ _)); exact BK401.out⟩, ⟨zH45⟩⟩
     case round =>
      clear H'
      try clear c2
      try clear c2b0
      try clear c2b1
      try clear c22
      try clear c23
      try clear c23b0
      try clear c23b1
      try clear c24
      try clear c24b0
      try clear c24b1
      try clear c26
      try clear c26b0
      try clear c26b1
      try clear c29
      try clear c29b0
      try clear c29b1
      try clear c30
      try clear c30b0
      try clear c30b1
      try clear c32
      try clear c32b0
      try clear c32b1
      try clear c37
      try clear c38
      try clear c38b0
      try clear c38b1
      try clear c60
      try clear c60b0
      try clear c60b1
      try clear c61
      try clear c61b0
      try clear c61b1
      try clear c62
      try clear c62b0
      try clear c62b1
      try clear c63
      try clear c63b0
      try clear c63b1
      try clear c65
      try clear c66
      try clear c66b0
      try clear c72
      try clear c72b0
      try clear c72b1
      try clear c99
      try clear hcz12_0
      try clear hcz12_1
      try clear hcz12_2
      try clear hcz12_3
      try clear hcz19_0
      try clear hcz19_1
      try clear hcz19_2
      try clear hcz19_3
      try clear hcz45_0
      try clear hcz45_1
      try clear hcz45_2
      try clear hcz45_3
      try clear hcz52_0
      try clear hcz52_1
      try clear hcz52_2
      try clear hcz52_3
      try clear hcz58_0
      try clear hcz58_1
      try clear hcz58_2
      try clear hcz58_3
      try clear hcz69_0
      try clear hcz69_1
      try clear hcz69_2
      try clear hcz69_3
      try clear hcz71_0
      try clear hcz71_1
      try clear hcz71_2
      try clear hcz71_3
      try clear hcz75_0
      try clear hcz75_1
      try clear hcz75_2
      try clear hcz75_3
      try clear hcz77_0
      try clear hcz77_1
      try clear hcz77_2
      try clear hcz77_3
      try clear hcz78_0
      try clear hcz78_1
      try clear hcz78_2
      try clear hcz78_3
      try clear hcz81_0
      try clear hcz81_1
      try clear hcz81_2
      try clear hcz81_3
      try clear hcz83_0
      try clear hcz83_1
      try clear hcz83_2
      try clear hcz83_3
      try clear hcz86_0
      try clear hcz86_1
      try clear hcz86_2
      try clear hcz86_3
      try clear hcz88_0
      try clear hcz88_1
      try clear hcz88_2
      try clear hcz88_3
      try clear hcz91_0
      try clear hcz91_1
      try clear hcz91_2
      try clear hcz91_3
      try clear hcz93_0
      try clear hcz93_1
      try clear hcz93_2
      try clear hcz93_3
      try clear hcz96_0
      try clear hcz96_1
      try clear hcz96_2
      try clear hcz96_3
      try clear hcz98_0
      try clear hcz98_1
      try clear hcz98_2
      try clear hcz98_3
      try clear hfz12_0
      try clear hfz12_1
      try clear hfz12_2
      try clear hfz12_3
      try clear hfz19_0
      try clear hfz19_1
      try clear hfz19_2
      try clear hfz19_3
      try clear hfz45_0
      try clear hfz45_1
      try clear hfz45_2
      try clear hfz45_3
      try clear hfz52_0
      try clear hfz52_1
      try clear hfz52_2
      try clear hfz52_3
      try clear hfz58_0
      try clear hfz58_1
      try clear hfz58_2
      try clear hfz58_3
      try clear hfz69_0
      try clear hfz69_1
      try clear hfz69_2
      try clear hfz69_3
      try clear hfz71_0
      try clear hfz71_1
      try clear hfz71_2
      try clear hfz71_3
      try clear hfz75_0
      try clear hfz75_1
      try clear hfz75_2
      try clear hfz75_3
      try clear hfz77_0
      try clear hfz77_1
      try clear hfz77_2
      try clear hfz77_3
      try clear hfz78_0
      try clear hfz78_1
      try clear hfz78_2
      try clear hfz78_3
      try clear hfz81_0
      try clear hfz81_1
      try clear hfz81_2
      try clear hfz81_3
      try clear hfz83_0
      try clear hfz83_1
      try clear hfz83_2
      try clear hfz83_3
      try clear hfz86_0
      try clear hfz86_1
      try clear hfz86_2
      try clear hfz86_3
      try clear hfz88_0
      try clear hfz88_1
      try clear hfz88_2
      try clear hfz88_3
      try clear hfz91_0
      try clear hfz91_1
      try clear hfz91_2
      try clear hfz91_3
      try clear hfz93_0
      try clear hfz93_1
      try clear hfz93_2
      try clear hfz93_3
      try clear hfz96_0
      try clear hfz96_1
      try clear hfz96_2
      try clear hfz96_3
      try clear hfz98_0
      try clear hfz98_1
      try clear hfz98_2
      try clear hfz98_3
      obtain ⟨x16_3, x17_3, rfl, HA, HK3, HO_3, HO_16, HO_369000, HO_369001, HO_379000, HO_379001, HO_402000, HO_402001, BK368, BK378, BK401, HB⟩ := hrel
      cases gk with
      | zero => exact absurd HA.out (by simp [laws_FnRoute.l0])
      | succ k3 =>
       have H := HA.out
       clear HA
       simp only [laws_FnRoute.l0] at H
       by_cases c102 : x17_3 < (t352.length : Int)
       rotate_left
       ·rw [if_neg c102] at H
        have c102b0 := decide_eq_false c102
        clear c102
        replace H := Option.bind_eq_some_iff.mp H
        obtain ⟨⟨t414, t417, t420, t421, t422⟩, A1280, H⟩ := H
        replace H : (if t422 = 0 then (some (decide (t421 ≤ t366))) else (some false)) = some r := H
        have A128 := za A1280
        clear A1280
        by_cases c129 : t422 = 0
        rotate_left
        ·rw [if_neg c129] at H
         have c129b0 : (t422 == 0) = false := beq_eq_false_iff_ne.mpr c129
         have c129b1 : (t422 != 0) = true := bne_iff_ne.mpr c129
         obtain rfl := Option.some.inj H
         obtain ⟨Ao142, co142, eo142⟩ := zad HO_16.out
         subst eo142
         go_wp2_with (first | (go_at_call 10; (with_reducible refine (impl_BestRoute.calls k3 _ _ x16_3 t353 t414 t417 t420 t421 t422 _ ?side1 ?side2 A128.out).mono ?_); (case side1 => exact zH60); (case side2 => exact (zw HO_16.out).2.1); rintro e w143 ⟨v415, v418, rfl, ho0, ho1, hb⟩; have n_ := zA_ (za (zp zG123 hb)) (zA_ (za (zp zG122 hb)) (zA_ (za (zo (zaa (zaa (zaf zG111 hb) (zy ho0)) (zy ho1)) (fun _ h_ => h_.1))) (zA_ (za (zo (zaa (zaa (zaf zG112 hb) (zy ho0)) (zy ho1)) (fun _ h_ => h_.1))) (zA_ (za (zo (zaa (zaa (zaf zG113 hb) (zy ho0)) (zy ho1)) (fun _ h_ => h_.1))) (zA_ (za (zo (zaa (zaa (zaf zG114 hb) (zy ho0)) (zy ho1)) (fun _ h_ => h_.1))) (zA_ (za (zo (zaa (zaa (zaf zG115 hb) (zy ho0)) (zy ho1)) (fun _ h_ => h_.1))) (zA_ (za (zo (zaa (zaa (zaf zG116 hb) (zy ho0)) (zy ho1)) (fun _ h_ => h_.1))) (zA_ (za (zae (zz (zz (zz (zz (zz (zz ho0 (zab zG111)) (zab zG112)) (zab zG113)) (zab zG114)) (zab zG115)) (zab zG116)) (zt zG83))) (zA_ (za (zae (zz (zz (zz (zz (zz (zz ho1 (zab zG111)) (zab zG112)) (zab zG113)) (zab zG114)) (zab zG115)) (zab zG116)) (zt zG83))) (zA_ (za (zs (g := gb368) (o := .cells #[.slice Ao11 t359.length co11, .slice Ao13 t362.length co13, .int .i64 t365, .int .i64 t366] 28 (0, 0)) zG103 hb)) (zA_ (za (zs (g := gb378) (o := .cells #[.slice Ao17 t369.length co17, .slice Ao20 t372.length co20, .int .i64 t375, .int .i64 t376] 28 (0, 0)) zG104 hb)) (zA_ (za (zs (g := gb401) (o := .cells #[.slice Ao55 t392.length co55, .slice Ao59 t395.length co59, .int .i64 t398, .int .i64 t399] 28 (0, 0)) zG105 hb)) (za (zv zG83 hb)))))))))))))); clear HO_3 HO_16 HO_369000 HO_369001 HO_379000 HO_379001 HO_402000 HO_402001 BK368 BK378 BK401 HB; obtain ⟨HO_3, HO_16, HO_369000, HO_369001, HO_379000, HO_379001, HO_402000, HO_402001, HO416, HO419, BK368, BK378, BK401, HB⟩ := n_; (try clear hb); (try clear ho0); (try clear ho1)) | ((with_reducible refine gate_dst (N := 20) rfl ?_); refine box_event ?hg (N := 20) ?hd (cs := #[.slice none 0 0, .slice none 0 0, .int .i64 0, .int .i64 0]) (t := 28) ?hr ?_; (case hd => rfl); (case hg => rfl); (case hr => exact zH103); intro gb423 hg w144 hbox hb; have n_ := zA_ (za (zp zG123 hb)) (zA_ (za (zp zG122 hb)) (zA_ (za (zp zG111 hb)) (zA_ (za (zp zG112 hb)) (zA_ (za (zp zG113 hb)) (zA_ (za (zp zG114 hb)) (zA_ (za (zp zG115 hb)) (zA_ (za (zp zG116 hb)) (zA_ (za (zp zK217 hb)) (zA_ (za (zp zK218 hb)) (zA_ (za (zs (g := gb368) (o := .cells #[.slice Ao11 t359.length co11, .slice Ao13 t362.length co13, .int .i64 t365, .int .i64 t366] 28 (0, 0)) zG103 hb)) (zA_ (za (zs (g := gb378) (o := .cells #[.slice Ao17 t369.length co17, .slice Ao20 t372.length co20, .int .i64 t375, .int .i64 t376] 28 (0, 0)) zG104 hb)) (zA_ (za (zs (g := gb401) (o := .cells #[.slice Ao55 t392.length co55, .slice Ao59 t395.length co59, .int .i64 t398, .int .i64 t399] 28 (0, 0)) zG105 hb)) (zA_ (za (zv zG83 hb)) (zA_ (za (hbox)) (zA_ (zN1 w.heap.size hg (zt zG83)) (zA_ (zN1 w.heap.size hg (zt zG83)) (zN3 hg (zac (g := gb368) (o := .cells #[.slice Ao11 t359.length co11, .slice Ao13 t362.length co13, .int .i64 t365, .int .i64 t366] 28 (0, 0)) zG103) (zN3 hg (zac (g := gb378) (o := .cells #[.slice Ao17 t369.length co17, .slice Ao20 t372.length co20, .int .i64 t375, .int .i64 t376] 28 (0, 0)) zG104) (zN2 hg (zac (g := gb401) (o := .cells #[.slice Ao55 t392.length co55, .slice Ao59 t395.length co59, .int .i64 t398, .int .i64 t399] 28 (0, 0)) zG105)))))))))))))))))))); clear HO_3 HO_16 HO_369000 HO_369001 HO_379000 HO_379001 HO_402000 HO_402001 HO416 HO419 BK368 BK378 BK401 HB; obtain ⟨HO_3, HO_16, HO_369000, HO_369001, HO_379000, HO_379001, HO_402000, HO_402001, HO416, HO419, BK368, BK378, BK401, HB, BK423, GW423, GE423, NB368_423, NB423_368, NB378_423, NB423_378, NB401_423, NB423_401⟩ := n_; clear hb hbox hg; obtain ⟨Ao145, co145, eo145⟩ := zad HO416.out; subst eo145; have hnb146 := NB423_368.out; have hnc146 := NB368_423.out; have hnb147 := NB423_378.out; have hnc147 := NB378_423.out; have hnb148 := NB423_401.out; have hnc148 := NB401_423.out; obtain ⟨hcz149_0, hcz149_1, hcz149_2, hcz149_3, hfz149_0, hfz149_1, hfz149_2, hfz149_3⟩ := zB4 BK423.out; obtain ⟨Ao150, co150, eo150⟩ := zad HO419.out; subst eo150))
         repeat (go_quiet (first | (go_at_call 10; (with_reducible refine (impl_BestRoute.calls k3 _ _ x16_3 t353 t414 t417 t420 t421 t422 _ ?side1 ?side2 A128.out).mono ?_); (case side1 => exact zH60); (case side2 => exact (zw HO_16.out).2.1); rintro e w143 ⟨v415, v418, rfl, ho0, ho1, hb⟩; have n_ := zA_ (za (zp zG123 hb)) (zA_ (za (zp zG122 hb)) (zA_ (za (zo (zaa (zaa (zaf zG111 hb) (zy ho0)) (zy ho1)) (fun _ h_ => h_.1))) (zA_ (za (zo (zaa (zaa (zaf zG112 hb) (zy ho0)) (zy ho1)) (fun _ h_ => h_.1))) (zA_ (za (zo (zaa (zaa (zaf zG113 hb) (zy ho0)) (zy ho1)) (fun _ h_ => h_.1))) (zA_ (za (zo (zaa (zaa (zaf zG114 hb) (zy ho0)) (zy ho1)) (fun _ h_ => h_.1))) (zA_ (za (zo (zaa (zaa (zaf zG115 hb) (zy ho0)) (zy ho1)) (fun _ h_ => h_.1))) (zA_ (za (zo (zaa (zaa (zaf zG116 hb) (zy ho0)) (zy ho1)) (fun _ h_ => h_.1))) (zA_ (za (zae (zz (zz (zz (zz (zz (zz ho0 (zab zG111)) (zab zG112)) (zab zG113)) (zab zG114)) (zab zG115)) (zab zG116)) (zt zG83))) (zA_ (za (zae (zz (zz (zz (zz (zz (zz ho1 (zab zG111)) (zab zG112)) (zab zG113)) (zab zG114)) (zab zG115)) (zab zG116)) (zt zG83))) (zA_ (za (zs (g := gb368) (o := .cells #[.slice Ao11 t359.length co11, .slice Ao13 t362.length co13, .int .i64 t365, .int .i64 t366] 28 (0, 0)) zG103 hb)) (zA_ (za (zs (g := gb378) (o := .cells #[.slice Ao17 t369.length co17, .slice Ao20 t372.length co20, .int .i64 t375, .int .i64 t376] 28 (0, 0)) zG104 hb)) (zA_ (za (zs (g := gb401) (o := .cells #[.slice Ao55 t392.length co55, .slice Ao59 t395.length co59, .int .i64 t398, .int .i64 t399] 28 (0, 0)) zG105 hb)) (za (zv zG83 hb)))))))))))))); clear HO_3 HO_16 HO_369000 HO_369001 HO_379000 HO_379001 HO_402000 HO_402001 BK368 BK378 BK401 HB; obtain ⟨HO_3, HO_16, HO_369000, HO_369001, HO_379000, HO_379001, HO_402000, HO_402001, HO416, HO419, BK368, BK378, BK401, HB⟩ := n_; (try clear hb); (try clear ho0); (try clear ho1)) | ((with_reducible refine gate_dst (N := 20) rfl ?_); refine box_event ?hg (N := 20) ?hd (cs := #[.slice none 0 0, .slice none 0 0, .int .i64 0, .int .i64 0]) (t := 28) ?hr ?_; (case hd => rfl); (case hg => rfl); (case hr => exact zH103); intro gb423 hg w144 hbox hb; have n_ := zA_ (za (zp zG123 hb)) (zA_ (za (zp zG122 hb)) (zA_ (za (zp zG111 hb)) (zA_ (za (zp zG112 hb)) (zA_ (za (zp zG113 hb)) (zA_ (za (zp zG114 hb)) (zA_ (za (zp zG115 hb)) (zA_ (za (zp zG116 hb)) (zA_ (za (zp zK217 hb)) (zA_ (za (zp zK218 hb)) (zA_ (za (zs (g := gb368) (o := .cells #[.slice Ao11 t359.length co11, .slice Ao13 t362.length co13, .int .i64 t365, .int .i64 t366] 28 (0, 0)) zG103 hb)) (zA_ (za (zs (g := gb378) (o := .cells #[.slice Ao17 t369.length co17, .slice Ao20 t372.length co20, .int .i64 t375, .int .i64 t376] 28 (0, 0)) zG104 hb)) (zA_ (za (zs (g := gb401) (o := .cells #[.slice Ao55 t392.length co55, .slice Ao59 t395.length co59, .int .i64 t398, .int .i64 t399] 28 (0, 0)) zG105 hb)) (zA_ (za (zv zG83 hb)) (zA_ (za (hbox)) (zA_ (zN1 w.heap.size hg (zt zG83)) (zA_ (zN1 w.heap.size hg (zt zG83)) (zN3 hg (zac (g := gb368) (o := .cells #[.slice Ao11 t359.length co11, .slice Ao13 t362.length co13, .int .i64 t365, .int .i64 t366] 28 (0, 0)) zG103) (zN3 hg (zac (g := gb378) (o := .cells #[.slice Ao17 t369.length co17, .slice Ao20 t372.length co20, .int .i64 t375, .int .i64 t376] 28 (0, 0)) zG104) (zN2 hg (zac (g := gb401) (o := .cells #[.slice Ao55 t392.length co55, .slice Ao59 t395.length co59, .int .i64 t398, .int .i64 t399] 28 (0, 0)) zG105)))))))))))))))))))); clear HO_3 HO_16 HO_369000 HO_369001 HO_379000 HO_379001 HO_402000 HO_402001 HO416 HO419 BK368 BK378 BK401 HB; obtain ⟨HO_3, HO_16, HO_369000, HO_369001, HO_379000, HO_379001, HO_402000, HO_402001, HO416, HO419, BK368, BK378, BK401, HB, BK423, GW423, GE423, NB368_423, NB423_368, NB378_423, NB423_378, NB401_423, NB423_401⟩ := n_; clear hb hbox hg; obtain ⟨Ao145, co145, eo145⟩ := zad HO416.out; subst eo145; have hnb146 := NB423_368.out; have hnc146 := NB368_423.out; have hnb147 := NB423_378.out; have hnc147 := NB378_423.out; have hnb148 := NB423_401.out; have hnc148 := NB401_423.out; obtain ⟨hcz149_0, hcz149_1, hcz149_2, hcz149_3, hfz149_0, hfz149_1, hfz149_2, hfz149_3⟩ := zB4 BK423.out; obtain ⟨Ao150, co150, eo150⟩ := zad HO419.out; subst eo150)); try go_wp2_with (first | (go_at_call 10; (with_reducible refine (impl_BestRoute.calls k3 _ _ x16_3 t353 t414 t417 t420 t421 t422 _ ?side1 ?side2 A128.out).mono ?_); (case side1 => exact zH60); (case side2 => exact (zw HO_16.out).2.1); rintro e w143 ⟨v415, v418, rfl, ho0, ho1, hb⟩; have n_ := zA_ (za (zp zG123 hb)) (zA_ (za (zp zG122 hb)) (zA_ (za (zo (zaa (zaa (zaf zG111 hb) (zy ho0)) (zy ho1)) (fun _ h_ => h_.1))) (zA_ (za (zo (zaa (zaa (zaf zG112 hb) (zy ho0)) (zy ho1)) (fun _ h_ => h_.1))) (zA_ (za (zo (zaa (zaa (zaf zG113 hb) (zy ho0)) (zy ho1)) (fun _ h_ => h_.1))) (zA_ (za (zo (zaa (zaa (zaf zG114 hb) (zy ho0)) (zy ho1)) (fun _ h_ => h_.1))) (zA_ (za (zo (zaa (zaa (zaf zG115 hb) (zy ho0)) (zy ho1)) (fun _ h_ => h_.1))) (zA_ (za (zo (zaa (zaa (zaf zG116 hb) (zy ho0)) (zy ho1)) (fun _ h_ => h_.1))) (zA_ (za (zae (zz (zz (zz (zz (zz (zz ho0 (zab zG111)) (zab zG112)) (zab zG113)) (zab zG114)) (zab zG115)) (zab zG116)) (zt zG83))) (zA_ (za (zae (zz (zz (zz (zz (zz (zz ho1 (zab zG111)) (zab zG112)) (zab zG113)) (zab zG114)) (zab zG115)) (zab zG116)) (zt zG83))) (zA_ (za (zs (g := gb368) (o := .cells #[.slice Ao11 t359.length co11, .slice Ao13 t362.length co13, .int .i64 t365, .int .i64 t366] 28 (0, 0)) zG103 hb)) (zA_ (za (zs (g := gb378) (o := .cells #[.slice Ao17 t369.length co17, .slice Ao20 t372.length co20, .int .i64 t375, .int .i64 t376] 28 (0, 0)) zG104 hb)) (zA_ (za (zs (g := gb401) (o := .cells #[.slice Ao55 t392.length co55, .slice Ao59 t395.length co59, .int .i64 t398, .int .i64 t399] 28 (0, 0)) zG105 hb)) (za (zv zG83 hb)))))))))))))); clear HO_3 HO_16 HO_369000 HO_369001 HO_379000 HO_379001 HO_402000 HO_402001 BK368 BK378 BK401 HB; obtain ⟨HO_3, HO_16, HO_369000, HO_369001, HO_379000, HO_379001, HO_402000, HO_402001, HO416, HO419, BK368, BK378, BK401, HB⟩ := n_; (try clear hb); (try clear ho0); (try clear ho1)) | ((with_reducible refine gate_dst (N := 20) rfl ?_); refine box_event ?hg (N := 20) ?hd (cs := #[.slice none 0 0, .slice none 0 0, .int .i64 0, .int .i64 0]) (t := 28) ?hr ?_; (case hd => rfl); (case hg => rfl); (case hr => exact zH103); intro gb423 hg w144 hbox hb; have n_ := zA_ (za (zp zG123 hb)) (zA_ (za (zp zG122 hb)) (zA_ (za (zp zG111 hb)) (zA_ (za (zp zG112 hb)) (zA_ (za (zp zG113 hb)) (zA_ (za (zp zG114 hb)) (zA_ (za (zp zG115 hb)) (zA_ (za (zp zG116 hb)) (zA_ (za (zp zK217 hb)) (zA_ (za (zp zK218 hb)) (zA_ (za (zs (g := gb368) (o := .cells #[.slice Ao11 t359.length co11, .slice Ao13 t362.length co13, .int .i64 t365, .int .i64 t366] 28 (0, 0)) zG103 hb)) (zA_ (za (zs (g := gb378) (o := .cells #[.slice Ao17 t369.length co17, .slice Ao20 t372.length co20, .int .i64 t375, .int .i64 t376] 28 (0, 0)) zG104 hb)) (zA_ (za (zs (g := gb401) (o := .cells #[.slice Ao55 t392.length co55, .slice Ao59 t395.length co59, .int .i64 t398, .int .i64 t399] 28 (0, 0)) zG105 hb)) (zA_ (za (zv zG83 hb)) (zA_ (za (hbox)) (zA_ (zN1 w.heap.size hg (zt zG83)) (zA_ (zN1 w.heap.size hg (zt zG83)) (zN3 hg (zac (g := gb368) (o := .cells #[.slice Ao11 t359.length co11, .slice Ao13 t362.length co13, .int .i64 t365, .int .i64 t366] 28 (0, 0)) zG103) (zN3 hg (zac (g := gb378) (o := .cells #[.slice Ao17 t369.length co17, .slice Ao20 t372.length co20, .int .i64 t375, .int .i64 t376] 28 (0, 0)) zG104) (zN2 hg (zac (g := gb401) (o := .cells #[.slice Ao55 t392.length co55, .slice Ao59 t395.length co59, .int .i64 t398, .int .i64 t399] 28 (0, 0)) zG105)))))))))))))))))))); clear HO_3 HO_16 HO_369000 HO_369001 HO_379000 HO_379001 HO_402000 HO_402001 HO416 HO419 BK368 BK378 BK401 HB; obtain ⟨HO_3, HO_16, HO_369000, HO_369001, HO_379000, HO_379001, HO_402000, HO_402001, HO416, HO419, BK368, BK378, BK401, HB, BK423, GW423, GE423, NB368_423, NB423_368, NB378_423, NB423_378, NB401_423, NB423_401⟩ := n_; clear hb hbox hg; obtain ⟨Ao145, co145, eo145⟩ := zad HO416.out; subst eo145; have hnb146 := NB423_368.out; have hnc146 := NB368_423.out; have hnb147 := NB423_378.out; have hnc147 := NB378_423.out; have hnb148 := NB423_401.out; have hnc148 := NB401_423.out; obtain ⟨hcz149_0, hcz149_1, hcz149_2, hcz149_3, hfz149_0, hfz149_1, hfz149_2, hfz149_3⟩ := zB4 BK423.out; obtain ⟨Ao150, co150, eo150⟩ := zad HO419.out; subst eo150)))
         go_ret
         exact zH22

        rw [if_pos c129] at H
        have c129b0 : (t422 == 0) = true := beq_iff_eq.mpr c129
        have c129b1 : (t422 != 0) = false := bne_eq_false_iff_eq.mpr c129
        clear c129
        obtain rfl := Option.some.inj H
        obtain ⟨Ao130, co130, eo130⟩ := zad HO_16.out
        subst eo130
        go_wp2_with (first | (go_at_call 10; (with_reducible refine (impl_BestRoute.calls k3 _ _ x16_3 t353 t414 t417 t420 t421 t422 _ ?side1 ?side2 A128.out).mono ?_); (case side1 => exact zH60); (case side2 => exact (zw HO_16.out).2.1); rintro e w131 ⟨v415, v418, rfl, ho0, ho1, hb⟩; have n_ := zA_ (za (zp zG123 hb)) (zA_ (za (zp zG122 hb)) (zA_ (za (zo (zaa (zaa (zaf zG111 hb) (zy ho0)) (zy ho1)) (fun _ h_ => h_.1))) (zA_ (za (zo (zaa (zaa (zaf zG112 hb) (zy ho0)) (zy ho1)) (fun _ h_ => h_.1))) (zA_ (za (zo (zaa (zaa (zaf zG113 hb) (zy ho0)) (zy ho1)) (fun _ h_ => h_.1))) (zA_ (za (zo (zaa (zaa (zaf zG114 hb) (zy ho0)) (zy ho1)) (fun _ h_ => h_.1))) (zA_ (za (zo (zaa (zaa (zaf zG115 hb) (zy ho0)) (zy ho1)) (fun _ h_ => h_.1))) (zA_ (za (zo (zaa (zaa (zaf zG116 hb) (zy ho0)) (zy ho1)) (fun _ h_ => h_.1))) (zA_ (za (zae (zz (zz (zz (zz (zz (zz ho0 (zab zG111)) (zab zG112)) (zab zG113)) (zab zG114)) (zab zG115)) (zab zG116)) (zt zG83))) (zA_ (za (zae (zz (zz (zz (zz (zz (zz ho1 (zab zG111)) (zab zG112)) (zab zG113)) (zab zG114)) (zab zG115)) (zab zG116)) (zt zG83))) (zA_ (za (zs (g := gb368) (o := .cells #[.slice Ao11 t359.length co11, .slice Ao13 t362.length co13, .int .i64 t365, .int .i64 t366] 28 (0, 0)) zG103 hb)) (zA_ (za (zs (g := gb378) (o := .cells #[.slice Ao17 t369.length co17, .slice Ao20 t372.length co20, .int .i64 t375, .int .i64 t376] 28 (0, 0)) zG104 hb)) (zA_ (za (zs (g := gb401) (o := .cells #[.slice Ao55 t392.length co55, .slice Ao59 t395.length co59, .int .i64 t398, .int .i64 t399] 28 (0, 0)) zG105 hb)) (za (zv zG83 hb)))))))))))))); clear HO_3 HO_16 HO_369000 HO_369001 HO_379000 HO_379001 HO_402000 HO_402001 BK368 BK378 BK401 HB; obtain ⟨HO_3, HO_16, HO_369000, HO_369001, HO_379000, HO_379001, HO_402000, HO_402001, HO416, HO419, BK368, BK378, BK401, HB⟩ := n_; (try clear hb); (try clear ho0); (try clear ho1)) | ((with_reducible refine gate_dst (N := 20) rfl ?_); refine box_event ?hg (N := 20) ?hd (cs := #[.slice none 0 0, .slice none 0 0, .int .i64 0, .int .i64 0]) (t := 28) ?hr ?_; (case hd => rfl); (case hg => rfl); (case hr => exact zH103); intro gb423 hg w132 hbox hb; have n_ := zA_ (za (zp zG123 hb)) (zA_ (za (zp zG122 hb)) (zA_ (za (zp zG111 hb)) (zA_ (za (zp zG112 hb)) (zA_ (za (zp zG113 hb)) (zA_ (za (zp zG114 hb)) (zA_ (za (zp zG115 hb)) (zA_ (za (zp zG116 hb)) (zA_ (za (zp zK217 hb)) (zA_ (za (zp zK218 hb)) (zA_ (za (zs (g := gb368) (o := .cells #[.slice Ao11 t359.length co11, .slice Ao13 t362.length co13, .int .i64 t365, .int .i64 t366] 28 (0, 0)) zG103 hb)) (zA_ (za (zs (g := gb378) (o := .cells #[.slice Ao17 t369.length co17, .slice Ao20 t372.length co20, .int .i64 t375, .int .i64 t376] 28 (0, 0)) zG104 hb)) (zA_ (za (zs (g := gb401) (o := .cells #[.slice Ao55 t392.length co55, .slice Ao59 t395.length co59, .int .i64 t398, .int .i64 t399] 28 (0, 0)) zG105 hb)) (zA_ (za (zv zG83 hb)) (zA_ (za (hbox)) (zA_ (zN1 w.heap.size hg (zt zG83)) (zA_ (zN1 w.heap.size hg (zt zG83)) (zN3 hg (zac (g := gb368) (o := .cells #[.slice Ao11 t359.length co11, .slice Ao13 t362.length co13, .int .i64 t365, .int .i64 t366] 28 (0, 0)) zG103) (zN3 hg (zac (g := gb378) (o := .cells #[.slice Ao17 t369.length co17, .slice Ao20 t372.length co20, .int .i64 t375, .int .i64 t376] 28 (0, 0)) zG104) (zN2 hg (zac (g := gb401) (o := .cells #[.slice Ao55 t392.length co55, .slice Ao59 t395.length co59, .int .i64 t398, .int .i64 t399] 28 (0, 0)) zG105)))))))))))))))))))); clear HO_3 HO_16 HO_369000 HO_369001 HO_379000 HO_379001 HO_402000 HO_402001 HO416 HO419 BK368 BK378 BK401 HB; obtain ⟨HO_3, HO_16, HO_369000, HO_369001, HO_379000, HO_379001, HO_402000, HO_402001, HO416, HO419, BK368, BK378, BK401, HB, BK423, GW423, GE423, NB368_423, NB423_368, NB378_423, NB423_378, NB401_423, NB423_401⟩ := n_; clear hb hbox hg; obtain ⟨Ao133, co133, eo133⟩ := zad HO416.out; subst eo133; have hnb134 := NB423_368.out; have hnc134 := NB368_423.out; have hnb135 := NB423_378.out; have hnc135 := NB378_423.out; have hnb136 := NB423_401.out; have hnc136 := NB401_423.out; obtain ⟨hcz137_0, hcz137_1, hcz137_2, hcz137_3, hfz137_0, hfz137_1, hfz137_2, hfz137_3⟩ := zB4 BK423.out; obtain ⟨Ao138, co138, eo138⟩ := zad HO419.out; subst eo138; have hnb139 := NB368_378.out; have hnc139 := NB378_368.out; have hnb140 := NB368_401.out; have hnc140 := NB401_368.out; obtain ⟨hcz141_0, hcz141_1, hcz141_2, hcz141_3, hfz141_0, hfz141_1, hfz141_2, hfz141_3⟩ := zB4 BK368.out))
        repeat (go_quiet (first | (go_at_call 10; (with_reducible refine (impl_BestRoute.calls k3 _ _ x16_3 t353 t414 t417 t420 t421 t422 _ ?side1 ?side2 A128.out).mono ?_); (case side1 => exact zH60); (case side2 => exact (zw HO_16.out).2.1); rintro e w131 ⟨v415, v418, rfl, ho0, ho1, hb⟩; have n_ := zA_ (za (zp zG123 hb)) (zA_ (za (zp zG122 hb)) (zA_ (za (zo (zaa (zaa (zaf zG111 hb) (zy ho0)) (zy ho1)) (fun _ h_ => h_.1))) (zA_ (za (zo (zaa (zaa (zaf zG112 hb) (zy ho0)) (zy ho1)) (fun _ h_ => h_.1))) (zA_ (za (zo (zaa (zaa (zaf zG113 hb) (zy ho0)) (zy ho1)) (fun _ h_ => h_.1))) (zA_ (za (zo (zaa (zaa (zaf zG114 hb) (zy ho0)) (zy ho1)) (fun _ h_ => h_.1))) (zA_ (za (zo (zaa (zaa (zaf zG115 hb) (zy ho0)) (zy ho1)) (fun _ h_ => h_.1))) (zA_ (za (zo (zaa (zaa (zaf zG116 hb) (zy ho0)) (zy ho1)) (fun _ h_ => h_.1))) (zA_ (za (zae (zz (zz (zz (zz (zz (zz ho0 (zab zG111)) (zab zG112)) (zab zG113)) (zab zG114)) (zab zG115)) (zab zG116)) (zt zG83))) (zA_ (za (zae (zz (zz (zz (zz (zz (zz ho1 (zab zG111)) (zab zG112)) (zab zG113)) (zab zG114)) (zab zG115)) (zab zG116)) (zt zG83))) (zA_ (za (zs (g := gb368) (o := .cells #[.slice Ao11 t359.length co11, .slice Ao13 t362.length co13, .int .i64 t365, .int .i64 t366] 28 (0, 0)) zG103 hb)) (zA_ (za (zs (g := gb378) (o := .cells #[.slice Ao17 t369.length co17, .slice Ao20 t372.length co20, .int .i64 t375, .int .i64 t376] 28 (0, 0)) zG104 hb)) (zA_ (za (zs (g := gb401) (o := .cells #[.slice Ao55 t392.length co55, .slice Ao59 t395.length co59, .int .i64 t398, .int .i64 t399] 28 (0, 0)) zG105 hb)) (za (zv zG83 hb)))))))))))))); clear HO_3 HO_16 HO_369000 HO_369001 HO_379000 HO_379001 HO_402000 HO_402001 BK368 BK378 BK401 HB; obtain ⟨HO_3, HO_16, HO_369000, HO_369001, HO_379000, HO_379001, HO_402000, HO_402001, HO416, HO419, BK368, BK378, BK401, HB⟩ := n_; (try clear hb); (try clear ho0); (try clear ho1)) | ((with_reducible refine gate_dst (N := 20) rfl ?_); refine box_event ?hg (N := 20) ?hd (cs := #[.slice none 0 0, .slice none 0 0, .int .i64 0, .int .i64 0]) (t := 28) ?hr ?_; (case hd => rfl); (case hg => rfl); (case hr => exact zH103); intro gb423 hg w132 hbox hb; have n_ := zA_ (za (zp zG123 hb)) (zA_ (za (zp zG122 hb)) (zA_ (za (zp zG111 hb)) (zA_ (za (zp zG112 hb)) (zA_ (za (zp zG113 hb)) (zA_ (za (zp zG114 hb)) (zA_ (za (zp zG115 hb)) (zA_ (za (zp zG116 hb)) (zA_ (za (zp zK217 hb)) (zA_ (za (zp zK218 hb)) (zA_ (za (zs (g := gb368) (o := .cells #[.slice Ao11 t359.length co11, .slice Ao13 t362.length co13, .int .i64 t365, .int .i64 t366] 28 (0, 0)) zG103 hb)) (zA_ (za (zs (g := gb378) (o := .cells #[.slice Ao17 t369.length co17, .slice Ao20 t372.length co20, .int .i64 t375, .int .i64 t376] 28 (0, 0)) zG104 hb)) (zA_ (za (zs (g := gb401) (o := .cells #[.slice Ao55 t392.length co55, .slice Ao59 t395.length co59, .int .i64 t398, .int .i64 t399] 28 (0, 0)) zG105 hb)) (zA_ (za (zv zG83 hb)) (zA_ (za (hbox)) (zA_ (zN1 w.heap.size hg (zt zG83)) (zA_ (zN1 w.heap.size hg (zt zG83)) (zN3 hg (zac (g := gb368) (o := .cells #[.slice Ao11 t359.length co11, .slice Ao13 t362.length co13, .int .i64 t365, .int .i64 t366] 28 (0, 0)) zG103) (zN3 hg (zac (g := gb378) (o := .cells #[.slice Ao17 t369.length co17, .slice Ao20 t372.length co20, .int .i64 t375, .int .i64 t376] 28 (0, 0)) zG104) (zN2 hg (zac (g := gb401) (o := .cells #[.slice Ao55 t392.length co55, .slice Ao59 t395.length co59, .int .i64 t398, .int .i64 t399] 28 (0, 0)) zG105)))))))))))))))))))); clear HO_3 HO_16 HO_369000 HO_369001 HO_379000 HO_379001 HO_402000 HO_402001 HO416 HO419 BK368 BK378 BK401 HB; obtain ⟨HO_3, HO_16, HO_369000, HO_369001, HO_379000, HO_379001, HO_402000, HO_402001, HO416, HO419, BK368, BK378, BK401, HB, BK423, GW423, GE423, NB368_423, NB423_368, NB378_423, NB423_378, NB401_423, NB423_401⟩ := n_; clear hb hbox hg; obtain ⟨Ao133, co133, eo133⟩ := zad HO416.out; subst eo133; have hnb134 := NB423_368.out; have hnc134 := NB368_423.out; have hnb135 := NB423_378.out; have hnc135 := NB378_423.out; have hnb136 := NB423_401.out; have hnc136 := NB401_423.out; obtain ⟨hcz137_0, hcz137_1, hcz137_2, hcz137_3, hfz137_0, hfz137_1, hfz137_2, hfz137_3⟩ := zB4 BK423.out; obtain ⟨Ao138, co138, eo138⟩ := zad HO419.out; subst eo138; have hnb139 := NB368_378.out; have hnc139 := NB378_368.out; have hnb140 := NB368_401.out; have hnc140 := NB401_368.out; obtain ⟨hcz141_0, hcz141_1, hcz141_2, hcz141_3, hfz141_0, hfz141_1, hfz141_2, hfz141_3⟩ := zB4 BK368.out)); try go_wp2_with (first | (go_at_call 10; (with_reducible refine (impl_BestRoute.calls k3 _ _ x16_3 t353 t414 t417 t420 t421 t422 _ ?side1 ?side2 A128.out).mono ?_); (case side1 => exact zH60); (case side2 => exact (zw HO_16.out).2.1); rintro e w131 ⟨v415, v418, rfl, ho0, ho1, hb⟩; have n_ := zA_ (za (zp zG123 hb)) (zA_ (za (zp zG122 hb)) (zA_ (za (zo (zaa (zaa (zaf zG111 hb) (zy ho0)) (zy ho1)) (fun _ h_ => h_.1))) (zA_ (za (zo (zaa (zaa (zaf zG112 hb) (zy ho0)) (zy ho1)) (fun _ h_ => h_.1))) (zA_ (za (zo (zaa (zaa (zaf zG113 hb) (zy ho0)) (zy ho1)) (fun _ h_ => h_.1))) (zA_ (za (zo (zaa (zaa (zaf zG114 hb) (zy ho0)) (zy ho1)) (fun _ h_ => h_.1))) (zA_ (za (zo (zaa (zaa (zaf zG115 hb) (zy ho0)) (zy ho1)) (fun _ h_ => h_.1))) (zA_ (za (zo (zaa (zaa (zaf zG116 hb) (zy ho0)) (zy ho1)) (fun _ h_ => h_.1))) (zA_ (za (zae (zz (zz (zz (zz (zz (zz ho0 (zab zG111)) (zab zG112)) (zab zG113)) (zab zG114)) (zab zG115)) (zab zG116)) (zt zG83))) (zA_ (za (zae (zz (zz (zz (zz (zz (zz ho1 (zab zG111)) (zab zG112)) (zab zG113)) (zab zG114)) (zab zG115)) (zab zG116)) (zt zG83))) (zA_ (za (zs (g := gb368) (o := .cells #[.slice Ao11 t359.length co11, .slice Ao13 t362.length co13, .int .i64 t365, .int .i64 t366] 28 (0, 0)) zG103 hb)) (zA_ (za (zs (g := gb378) (o := .cells #[.slice Ao17 t369.length co17, .slice Ao20 t372.length co20, .int .i64 t375, .int .i64 t376] 28 (0, 0)) zG104 hb)) (zA_ (za (zs (g := gb401) (o := .cells #[.slice Ao55 t392.length co55, .slice Ao59 t395.length co59, .int .i64 t398, .int .i64 t399] 28 (0, 0)) zG105 hb)) (za (zv zG83 hb)))))))))))))); clear HO_3 HO_16 HO_369000 HO_369001 HO_379000 HO_379001 HO_402000 HO_402001 BK368 BK378 BK401 HB; obtain ⟨HO_3, HO_16, HO_369000, HO_369001, HO_379000, HO_379001, HO_402000, HO_402001, HO416, HO419, BK368, BK378, BK401, HB⟩ := n_; (try clear hb); (try clear ho0); (try clear ho1)) | ((with_reducible refine gate_dst (N := 20) rfl ?_); refine box_event ?hg (N := 20) ?hd (cs := #[.slice none 0 0, .slice none 0 0, .int .i64 0, .int .i64 0]) (t := 28) ?hr ?_; (case hd => rfl); (case hg => rfl); (case hr => exact zH103); intro gb423 hg w132 hbox hb; have n_ := zA_ (za (zp zG123 hb)) (zA_ (za (zp zG122 hb)) (zA_ (za (zp zG111 hb)) (zA_ (za (zp zG112 hb)) (zA_ (za (zp zG113 hb)) (zA_ (za (zp zG114 hb)) (zA_ (za (zp zG115 hb)) (zA_ (za (zp zG116 hb)) (zA_ (za (zp zK217 hb)) (zA_ (za (zp zK218 hb)) (zA_ (za (zs (g := gb368) (o := .cells #[.slice Ao11 t359.length co11, .slice Ao13 t362.length co13, .int .i64 t365, .int .i64 t366] 28 (0, 0)) zG103 hb)) (zA_ (za (zs (g := gb378) (o := .cells #[.slice Ao17 t369.length co17, .slice Ao20 t372.length co20, .int .i64 t375, .int .i64 t376] 28 (0, 0)) zG104 hb)) (zA_ (za (zs (g := gb401) (o := .cells #[.slice Ao55 t392.length co55, .slice Ao59 t395.length co59, .int .i64 t398, .int .i64 t399] 28 (0, 0)) zG105 hb)) (zA_ (za (zv zG83 hb)) (zA_ (za (hbox)) (zA_ (zN1 w.heap.size hg (zt zG83)) (zA_ (zN1 w.heap.size hg (zt zG83)) (zN3 hg (zac (g := gb368) (o := .cells #[.slice Ao11 t359.length co11, .slice Ao13 t362.length co13, .int .i64 t365, .int .i64 t366] 28 (0, 0)) zG103) (zN3 hg (zac (g := gb378) (o := .cells #[.slice Ao17 t369.length co17, .slice Ao20 t372.length co20, .int .i64 t375, .int .i64 t376] 28 (0, 0)) zG104) (zN2 hg (zac (g := gb401) (o := .cells #[.slice Ao55 t392.length co55, .slice Ao59 t395.length co59, .int .i64 t398, .int .i64 t399] 28 (0, 0)) zG105)))))))))))))))))))); clear HO_3 HO_16 HO_369000 HO_369001 HO_379000 HO_379001 HO_402000 HO_402001 HO416 HO419 BK368 BK378 BK401 HB; obtain ⟨HO_3, HO_16, HO_369000, HO_369001, HO_379000, HO_379001, HO_402000, HO_402001, HO416, HO419, BK368, BK378, BK401, HB, BK423, GW423, GE423, NB368_423, NB423_368, NB378_423, NB423_378, NB401_423, NB423_401⟩ := n_; clear hb hbox hg; obtain ⟨Ao133, co133, eo133⟩ := zad HO416.out; subst eo133; have hnb134 := NB423_368.out; have hnc134 := NB368_423.out; have hnb135 := NB423_378.out; have hnc135 := NB378_423.out; have hnb136 := NB423_401.out; have hnc136 := NB401_423.out; obtain ⟨hcz137_0, hcz137_1, hcz137_2, hcz137_3, hfz137_0, hfz137_1, hfz137_2, hfz137_3⟩ := zB4 BK423.out; obtain ⟨Ao138, co138, eo138⟩ := zad HO419.out; subst eo138; have hnb139 := NB368_378.out; have hnc139 := NB378_368.out; have hnb140 := NB368_401.out; have hnc140 := NB401_368.out; obtain ⟨hcz141_0, hcz141_1, hcz141_2, hcz141_3, hfz141_0, hfz141_1, hfz141_2, hfz141_3⟩ := zB4 BK368.out)))
        go_ret
        exact zH22
       rw [if_pos c102] at H
       have c102b0 := decide_eq_true c102
       clear c102
       by_cases c103 : 0 ≤ x17_3
       rotate_left
       ·rw [if_neg c103] at H
        exact absurd H (by simp)
       rw [if_pos c103] at H
       have c103b0 := decide_eq_true c103
       clear c103
       by_cases c104 : x16_3.length < 3518437208883
       rotate_left
       ·rw [if_neg c104] at H
        exact absurd H (by simp)
       rw [if_pos c104] at H
       have LMc104 := za c104
       clear c104
       obtain ⟨y408, hy408⟩ : ∃ y_ : List (S37), y_ = (x16_3 ++ [(⟨(rd_T37 t352 x17_3).f0, (rd_T37 t352 x17_3).f1, (rd_T37 t352 x17_3).f2, wrap64 (((rd_T37 t352 x17_3).f3) + 40), (rd_T37 t352 x17_3).f4⟩ : S37)]) := ⟨_, rfl⟩
       replace H : (if x17_3 < (t359.length : Int) then (if x17_3 < (t362.length : Int) then (if 0 ≤ (rd t359 x17_3) then (if (rd t359 x17_3) < (t352.length : Int) then (if (rd t362 x17_3) > ((rd_T37 t352 (rd t359 x17_3)).f3) then (some false) else (laws_FnRoute.l0 k3 t352 t353 y408 (wrap64 (x17_3 + 1)) t359 t362 t365 t366)) else (none)) else (none)) else (none)) else (none)) = some r := by first | (rw [hy408]; with_reducible exact H) | (have H2_ := (Option.bind_some _ _).symm.trans H; rw [hy408]; with_reducible exact H2_) | (have H2_ := (Option.bind_some _ _).symm.trans H; with_reducible exact H2_) | with_reducible exact H | (rw [hy408]; exact H) | exact H
       have Ny408 := za hy408
       clear hy408
       by_cases c105 : x17_3 < (t359.length : Int)
       rotate_left
       ·rw [if_neg c105] at H
        exact absurd H (by simp)
       rw [if_pos c105] at H
       have c105b0 := decide_eq_true c105
       clear c105
       by_cases c106 : x17_3 < (t362.length : Int)
       rotate_left
       ·rw [if_neg c106] at H
        exact absurd H (by simp)
       rw [if_pos c106] at H
       have c106b0 := decide_eq_true c106
       clear c106
       by_cases c107 : 0 ≤ (rd t359 x17_3)
       rotate_left
       ·rw [if_neg c107] at H
        exact absurd H (by simp)
       rw [if_pos c107] at H
       have c107b0 := decide_eq_true c107
       clear c107
       by_cases c108 : (rd t359 x17_3) < (t352.length : Int)
       rotate_left
       ·rw [if_neg c108] at H
        exact absurd H (by simp)
       rw [if_pos c108] at H
       have c108b0 := decide_eq_true c108
       clear c108
       by_cases c109 : (rd t362 x17_3) > ((rd_T37 t352 (rd t359 x17_3)).f3)
       ·rw [if_pos c109] at H
        have c109b0 : decide (((rd_T37 t352 (rd t359 x17_3)).f3) < (rd t362 x17_3)) = true := decide_eq_true c109
        clear c109
        obtain rfl := Option.some.inj H
        have p406 : 0 ≤ (x17_3 : Int) := zO
        have q406 : x17_3 < (t352.length : Int) := zO
        obtain ⟨ad406, e406, hx406_0, hx406_1, hx406_2, hx406_3, hx406_4⟩ := at_T37 (zw HO_3.out).2.2 x17_3 p406 q406
        cases e406
        replace p406 := eq_true p406
        replace q406 := eq_true q406
        go_wp2_with (first | ((with_reducible refine gate_dst (N := 18) rfl ?_); refine box_event ?hg (N := 18) ?hd (cs := #[.int .i64 0, .int .i64 0, .int .i64 0, .int .i64 0, .int .i64 0]) (t := 37) ?hr ?_; (case hd => rfl); (case hg => rfl); (case hr => exact zH103); intro gb407 hg w110 hbox hb; have n_ := zA_ (za (zp (zba zG123 gb407 (Nat.le_of_eq hg.symm)) hb)) (zA_ (za (zp (zba zG122 gb407 (Nat.le_of_eq hg.symm)) hb)) (zA_ (za (zp zG111 hb)) (zA_ (za (zp zG112 hb)) (zA_ (za (zp zG113 hb)) (zA_ (za (zp zG114 hb)) (zA_ (za (zp zG115 hb)) (zA_ (za (zp zG116 hb)) (zA_ (za (zs (g := gb368) (o := .cells #[.slice Ao11 t359.length co11, .slice Ao13 t362.length co13, .int .i64 t365, .int .i64 t366] 28 (0, 0)) zG103 hb)) (zA_ (za (zs (g := gb378) (o := .cells #[.slice Ao17 t369.length co17, .slice Ao20 t372.length co20, .int .i64 t375, .int .i64 t376] 28 (0, 0)) zG104 hb)) (zA_ (za (zs (g := gb401) (o := .cells #[.slice Ao55 t392.length co55, .slice Ao59 t395.length co59, .int .i64 t398, .int .i64 t399] 28 (0, 0)) zG105 hb)) (zA_ (za (zv zG83 hb)) (zA_ (za (hbox)) (zA_ (zN1 w.heap.size hg (zt zG83)) (zA_ (zN1 w.heap.size hg (zt zG83)) (zN3 hg (zac (g := gb368) (o := .cells #[.slice Ao11 t359.length co11, .slice Ao13 t362.length co13, .int .i64 t365, .int .i64 t366] 28 (0, 0)) zG103) (zN3 hg (zac (g := gb378) (o := .cells #[.slice Ao17 t369.length co17, .slice Ao20 t372.length co20, .int .i64 t375, .int .i64 t376] 28 (0, 0)) zG104) (zN2 hg (zac (g := gb401) (o := .cells #[.slice Ao55 t392.length co55, .slice Ao59 t395.length co59, .int .i64 t398, .int .i64 t399] 28 (0, 0)) zG105)))))))))))))))))); clear HO_3 HO_16 HO_369000 HO_369001 HO_379000 HO_379001 HO_402000 HO_402001 BK368 BK378 BK401 HB; obtain ⟨HO_3, HO_16, HO_369000, HO_369001, HO_379000, HO_379001, HO_402000, HO_402001, BK368, BK378, BK401, HB, BK407, GW407, GE407, NB368_407, NB407_368, NB378_407, NB407_378, NB401_407, NB407_401⟩ := n_; clear hb hbox hg; have hnb111 := NB407_368.out; have hnc111 := NB368_407.out; have hnb112 := NB407_378.out; have hnc112 := NB378_407.out; have hnb113 := NB407_401.out; have hnc113 := NB401_407.out; obtain ⟨hcz114_0, hcz114_1, hcz114_2, hcz114_3, hcz114_4, hfz114_0, hfz114_1, hfz114_2, hfz114_3, hfz114_4⟩ := zB5 BK407.out; have hd114_3 : World.cell? (World.setCell (World.setCell (World.setCell (World.setCell w110 ⟨gb407, 0, none⟩ (.int .i64 (rd_T37 t352 x17_3).f0)) ⟨gb407, 1, none⟩ (.int .i64 (rd_T37 t352 x17_3).f1)) ⟨gb407, 2, none⟩ (.int .i64 (rd_T37 t352 x17_3).f2)) ⟨gb407, 3, none⟩ (.int .i64 (rd_T37 t352 x17_3).f3)) ⟨gb407, 3, none⟩ = some (.int .i64 (rd_T37 t352 x17_3).f3) := by rw [World.cell?_setCell_same' _ _ _ (by go_simp)]) | ((with_reducible refine gate_builtin (b := .append) (xs := #[.tmp 156, .tmp 158]) rfl ?_); at_builtin; refine zaz k37 (w0 := w) w.heap.size rfl (.tmp 156) (.tmp 158) 23 37 (.agg #[(.int .i64 0), (.int .i64 0), (.int .i64 0), (.int .i64 0), (.int .i64 0)]) 40 rfl Try.underlying23 info37 rfl zG126 (by omega) u16 x16_3 (⟨(rd_T37 t352 x17_3).f0, (rd_T37 t352 x17_3).f1, (rd_T37 t352 x17_3).f2, wrap64 (((rd_T37 t352 x17_3).f3) + 40), (rd_T37 t352 x17_3).f4⟩ : S37) [.int .i64 ((rd_T37 t352 x17_3).f0), .int .i64 ((rd_T37 t352 x17_3).f1), .int .i64 ((rd_T37 t352 x17_3).f2), .int .i64 (wrap64 (((rd_T37 t352 x17_3).f3) + 40)), .int .i64 ((rd_T37 t352 x17_3).f4)] (fun k_ => some k_ ≠ (.slice (some ad406) t352.length co8 : Value).ownBlock ∧ k_ ≠ gb407) (fun _ => False) rfl zK220 ?aP (fun _ hk => hk.elim) ?aF ?aO ?aB ?aS ?aL ?_; (case aP => exact zH49); (case aB => exact zG81); (case aF => exact zH0); (case aO => exact zH2); (case aS => exact (zt zG81)); (case aL => have := LMc104.out; omega); intro v409 w115 ho hb hg hat; rw [← Ny408.out] at ho; have n_ := zA_ (za (zat (ok := (fun k_ => k_ ≠ gb407)) zK124 hg hat)) (zA_ (za (zal zK131 (zam zG65) zG126 hg)) (zA_ (za (zal zK132 (zam zG65) zG126 hg)) (zA_ (za (zal zK133 (zam zG65) zG126 hg)) (zA_ (za (zal zK134 (zam zG65) zG126 hg)) (zA_ (za (zal zK135 (zam zG65) zG126 hg)) (zA_ (za (zal zK136 (zam zG65) zG126 hg)) (zA_ (za (zak (g := gb368) (o := .cells #[.slice Ao11 t359.length co11, .slice Ao13 t362.length co13, .int .i64 t365, .int .i64 t366] 28 (0, 0)) zK121 hg (zan HO_16.out BK368.out zG126))) (zA_ (za (zak (g := gb378) (o := .cells #[.slice Ao17 t369.length co17, .slice Ao20 t372.length co20, .int .i64 t375, .int .i64 t376] 28 (0, 0)) zK122 hg (zan HO_16.out BK378.out zG126))) (zA_ (za (zak (g := gb401) (o := .cells #[.slice Ao55 t392.length co55, .slice Ao59 t395.length co59, .int .i64 t398, .int .i64 t399] 28 (0, 0)) zK123 hg (zan HO_16.out BK401.out zG126))) (zA_ (za (zak (g := gb407) (o := .cells #[.int .i64 ((rd_T37 t352 x17_3).f0), .int .i64 ((rd_T37 t352 x17_3).f1), .int .i64 ((rd_T37 t352 x17_3).f2), .int .i64 (wrap64 (((rd_T37 t352 x17_3).f3) + 40)), .int .i64 ((rd_T37 t352 x17_3).f4)] 37 (0, 0)) zK111 hg (zay HO_16.out (fun _ hk => hk.2)))) (zA_ (za (hb)) (za (ho))))))))))))); clear HO_3 HO_369000 HO_369001 HO_379000 HO_379001 HO_402000 HO_402001 BK368 BK378 BK401 BK407 HB HO_16; obtain ⟨HO_3, HO_369000, HO_369001, HO_379000, HO_379001, HO_402000, HO_402001, BK368, BK378, BK401, BK407, HB, HO410⟩ := n_; clear ho hb hg hat; have hnb116 := NB368_378.out; have hnc116 := NB378_368.out; have hnb117 := NB368_401.out; have hnc117 := NB401_368.out; obtain ⟨hcz118_0, hcz118_1, hcz118_2, hcz118_3, hfz118_0, hfz118_1, hfz118_2, hfz118_3⟩ := zB4 BK368.out; have p411 : 0 ≤ (x17_3 : Int) := zO; have q411 : x17_3 < (t359.length : Int) := zO; obtain ⟨ad411, e411, hx411_0⟩ := zao (zw HO_369000.out).2.2 x17_3 p411 q411; cases e411; replace p411 := eq_true p411; replace q411 := eq_true q411; have p412 : 0 ≤ (x17_3 : Int) := zO; have q412 : x17_3 < (t362.length : Int) := zO; obtain ⟨ad412, e412, hx412_0⟩ := zao (zw HO_369001.out).2.2 x17_3 p412 q412; cases e412; replace p412 := eq_true p412; replace q412 := eq_true q412; have p413 : 0 ≤ ((rd t359 x17_3) : Int) := zO; have q413 : (rd t359 x17_3) < (t352.length : Int) := zO; obtain ⟨ad413, e413, hx413_0, hx413_1, hx413_2, hx413_3, hx413_4⟩ := at_T37 (zw HO_3.out).2.2 (rd t359 x17_3) p413 q413; obtain rfl : ad406 = ad413 := (by injection e413); replace p413 := eq_true p413; replace q413 := eq_true q413))
        repeat (go_quiet (first | ((with_reducible refine gate_dst (N := 18) rfl ?_); refine box_event ?hg (N := 18) ?hd (cs := #[.int .i64 0, .int .i64 0, .int .i64 0, .int .i64 0, .int .i64 0]) (t := 37) ?hr ?_; (case hd => rfl); (case hg => rfl); (case hr => exact zH103); intro gb407 hg w110 hbox hb; have n_ := zA_ (za (zp (zba zG123 gb407 (Nat.le_of_eq hg.symm)) hb)) (zA_ (za (zp (zba zG122 gb407 (Nat.le_of_eq hg.symm)) hb)) (zA_ (za (zp zG111 hb)) (zA_ (za (zp zG112 hb)) (zA_ (za (zp zG113 hb)) (zA_ (za (zp zG114 hb)) (zA_ (za (zp zG115 hb)) (zA_ (za (zp zG116 hb)) (zA_ (za (zs (g := gb368) (o := .cells #[.slice Ao11 t359.length co11, .slice Ao13 t362.length co13, .int .i64 t365, .int .i64 t366] 28 (0, 0)) zG103 hb)) (zA_ (za (zs (g := gb378) (o := .cells #[.slice Ao17 t369.length co17, .slice Ao20 t372.length co20, .int .i64 t375, .int .i64 t376] 28 (0, 0)) zG104 hb)) (zA_ (za (zs (g := gb401) (o := .cells #[.slice Ao55 t392.length co55, .slice Ao59 t395.length co59, .int .i64 t398, .int .i64 t399] 28 (0, 0)) zG105 hb)) (zA_ (za (zv zG83 hb)) (zA_ (za (hbox)) (zA_ (zN1 w.heap.size hg (zt zG83)) (zA_ (zN1 w.heap.size hg (zt zG83)) (zN3 hg (zac (g := gb368) (o := .cells #[.slice Ao11 t359.length co11, .slice Ao13 t362.length co13, .int .i64 t365, .int .i64 t366] 28 (0, 0)) zG103) (zN3 hg (zac (g := gb378) (o := .cells #[.slice Ao17 t369.length co17, .slice Ao20 t372.length co20, .int .i64 t375, .int .i64 t376] 28 (0, 0)) zG104) (zN2 hg (zac (g := gb401) (o := .cells #[.slice Ao55 t392.length co55, .slice Ao59 t395.length co59, .int .i64 t398, .int .i64 t399] 28 (0, 0)) zG105)))))))))))))))))); clear HO_3 HO_16 HO_369000 HO_369001 HO_379000 HO_379001 HO_402000 HO_402001 BK368 BK378 BK401 HB; obtain ⟨HO_3, HO_16, HO_369000, HO_369001, HO_379000, HO_379001, HO_402000, HO_402001, BK368, BK378, BK401, HB, BK407, GW407, GE407, NB368_407, NB407_368, NB378_407, NB407_378, NB401_407, NB407_401⟩ := n_; clear hb hbox hg; have hnb111 := NB407_368.out; have hnc111 := NB368_407.out; have hnb112 := NB407_378.out; have hnc112 := NB378_407.out; have hnb113 := NB407_401.out; have hnc113 := NB401_407.out; obtain ⟨hcz114_0, hcz114_1, hcz114_2, hcz114_3, hcz114_4, hfz114_0, hfz114_1, hfz114_2, hfz114_3, hfz114_4⟩ := zB5 BK407.out; have hd114_3 : World.cell? (World.setCell (World.setCell (World.setCell (World.setCell w110 ⟨gb407, 0, none⟩ (.int .i64 (rd_T37 t352 x17_3).f0)) ⟨gb407, 1, none⟩ (.int .i64 (rd_T37 t352 x17_3).f1)) ⟨gb407, 2, none⟩ (.int .i64 (rd_T37 t352 x17_3).f2)) ⟨gb407, 3, none⟩ (.int .i64 (rd_T37 t352 x17_3).f3)) ⟨gb407, 3, none⟩ = some (.int .i64 (rd_T37 t352 x17_3).f3) := by rw [World.cell?_setCell_same' _ _ _ (by go_simp)]) | ((with_reducible refine gate_builtin (b := .append) (xs := #[.tmp 156, .tmp 158]) rfl ?_); at_builtin; refine zaz k37 (w0 := w) w.heap.size rfl (.tmp 156) (.tmp 158) 23 37 (.agg #[(.int .i64 0), (.int .i64 0), (.int .i64 0), (.int .i64 0), (.int .i64 0)]) 40 rfl Try.underlying23 info37 rfl zG126 (by omega) u16 x16_3 (⟨(rd_T37 t352 x17_3).f0, (rd_T37 t352 x17_3).f1, (rd_T37 t352 x17_3).f2, wrap64 (((rd_T37 t352 x17_3).f3) + 40), (rd_T37 t352 x17_3).f4⟩ : S37) [.int .i64 ((rd_T37 t352 x17_3).f0), .int .i64 ((rd_T37 t352 x17_3).f1), .int .i64 ((rd_T37 t352 x17_3).f2), .int .i64 (wrap64 (((rd_T37 t352 x17_3).f3) + 40)), .int .i64 ((rd_T37 t352 x17_3).f4)] (fun k_ => some k_ ≠ (.slice (some ad406) t352.length co8 : Value).ownBlock ∧ k_ ≠ gb407) (fun _ => False) rfl zK220 ?aP (fun _ hk => hk.elim) ?aF ?aO ?aB ?aS ?aL ?_; (case aP => exact zH49); (case aB => exact zG81); (case aF => exact zH0); (case aO => exact zH2); (case aS => exact (zt zG81)); (case aL => have := LMc104.out; omega); intro v409 w115 ho hb hg hat; rw [← Ny408.out] at ho; have n_ := zA_ (za (zat (ok := (fun k_ => k_ ≠ gb407)) zK124 hg hat)) (zA_ (za (zal zK131 (zam zG65) zG126 hg)) (zA_ (za (zal zK132 (zam zG65) zG126 hg)) (zA_ (za (zal zK133 (zam zG65) zG126 hg)) (zA_ (za (zal zK134 (zam zG65) zG126 hg)) (zA_ (za (zal zK135 (zam zG65) zG126 hg)) (zA_ (za (zal zK136 (zam zG65) zG126 hg)) (zA_ (za (zak (g := gb368) (o := .cells #[.slice Ao11 t359.length co11, .slice Ao13 t362.length co13, .int .i64 t365, .int .i64 t366] 28 (0, 0)) zK121 hg (zan HO_16.out BK368.out zG126))) (zA_ (za (zak (g := gb378) (o := .cells #[.slice Ao17 t369.length co17, .slice Ao20 t372.length co20, .int .i64 t375, .int .i64 t376] 28 (0, 0)) zK122 hg (zan HO_16.out BK378.out zG126))) (zA_ (za (zak (g := gb401) (o := .cells #[.slice Ao55 t392.length co55, .slice Ao59 t395.length co59, .int .i64 t398, .int .i64 t399] 28 (0, 0)) zK123 hg (zan HO_16.out BK401.out zG126))) (zA_ (za (zak (g := gb407) (o := .cells #[.int .i64 ((rd_T37 t352 x17_3).f0), .int .i64 ((rd_T37 t352 x17_3).f1), .int .i64 ((rd_T37 t352 x17_3).f2), .int .i64 (wrap64 (((rd_T37 t352 x17_3).f3) + 40)), .int .i64 ((rd_T37 t352 x17_3).f4)] 37 (0, 0)) zK111 hg (zay HO_16.out (fun _ hk => hk.2)))) (zA_ (za (hb)) (za (ho))))))))))))); clear HO_3 HO_369000 HO_369001 HO_379000 HO_379001 HO_402000 HO_402001 BK368 BK378 BK401 BK407 HB HO_16; obtain ⟨HO_3, HO_369000, HO_369001, HO_379000, HO_379001, HO_402000, HO_402001, BK368, BK378, BK401, BK407, HB, HO410⟩ := n_; clear ho hb hg hat; have hnb116 := NB368_378.out; have hnc116 := NB378_368.out; have hnb117 := NB368_401.out; have hnc117 := NB401_368.out; obtain ⟨hcz118_0, hcz118_1, hcz118_2, hcz118_3, hfz118_0, hfz118_1, hfz118_2, hfz118_3⟩ := zB4 BK368.out; have p411 : 0 ≤ (x17_3 : Int) := zO; have q411 : x17_3 < (t359.length : Int) := zO; obtain ⟨ad411, e411, hx411_0⟩ := zao (zw HO_369000.out).2.2 x17_3 p411 q411; cases e411; replace p411 := eq_true p411; replace q411 := eq_true q411; have p412 : 0 ≤ (x17_3 : Int) := zO; have q412 : x17_3 < (t362.length : Int) := zO; obtain ⟨ad412, e412, hx412_0⟩ := zao (zw HO_369001.out).2.2 x17_3 p412 q412; cases e412; replace p412 := eq_true p412; replace q412 := eq_true q412; have p413 : 0 ≤ ((rd t359 x17_3) : Int) := zO; have q413 : (rd t359 x17_3) < (t352.length : Int) := zO; obtain ⟨ad413, e413, hx413_0, hx413_1, hx413_2, hx413_3, hx413_4⟩ := at_T37 (zw HO_3.out).2.2 (rd t359 x17_3) p413 q413; obtain rfl : ad406 = ad413 := (by injection e413); replace p413 := eq_true p413; replace q413 := eq_true q413)); try go_wp2_with (first | ((with_reducible refine gate_dst (N := 18) rfl ?_); refine box_event ?hg (N := 18) ?hd (cs := #[.int .i64 0, .int .i64 0, .int .i64 0, .int .i64 0, .int .i64 0]) (t := 37) ?hr ?_; (case hd => rfl); (case hg => rfl); (case hr => exact zH103); intro gb407 hg w110 hbox hb; have n_ := zA_ (za (zp (zba zG123 gb407 (Nat.le_of_eq hg.symm)) hb)) (zA_ (za (zp (zba zG122 gb407 (Nat.le_of_eq hg.symm)) hb)) (zA_ (za (zp zG111 hb)) (zA_ (za (zp zG112 hb)) (zA_ (za (zp zG113 hb)) (zA_ (za (zp zG114 hb)) (zA_ (za (zp zG115 hb)) (zA_ (za (zp zG116 hb)) (zA_ (za (zs (g := gb368) (o := .cells #[.slice Ao11 t359.length co11, .slice Ao13 t362.length co13, .int .i64 t365, .int .i64 t366] 28 (0, 0)) zG103 hb)) (zA_ (za (zs (g := gb378) (o := .cells #[.slice Ao17 t369.length co17, .slice Ao20 t372.length co20, .int .i64 t375, .int .i64 t376] 28 (0, 0)) zG104 hb)) (zA_ (za (zs (g := gb401) (o := .cells #[.slice Ao55 t392.length co55, .slice Ao59 t395.length co59, .int .i64 t398, .int .i64 t399] 28 (0, 0)) zG105 hb)) (zA_ (za (zv zG83 hb)) (zA_ (za (hbox)) (zA_ (zN1 w.heap.size hg (zt zG83)) (zA_ (zN1 w.heap.size hg (zt zG83)) (zN3 hg (zac (g := gb368) (o := .cells #[.slice Ao11 t359.length co11, .slice Ao13 t362.length co13, .int .i64 t365, .int .i64 t366] 28 (0, 0)) zG103) (zN3 hg (zac (g := gb378) (o := .cells #[.slice Ao17 t369.length co17, .slice Ao20 t372.length co20, .int .i64 t375, .int .i64 t376] 28 (0, 0)) zG104) (zN2 hg (zac (g := gb401) (o := .cells #[.slice Ao55 t392.length co55, .slice Ao59 t395.length co59, .int .i64 t398, .int .i64 t399] 28 (0, 0)) zG105)))))))))))))))))); clear HO_3 HO_16 HO_369000 HO_369001 HO_379000 HO_379001 HO_402000 HO_402001 BK368 BK378 BK401 HB; obtain ⟨HO_3, HO_16, HO_369000, HO_369001, HO_379000, HO_379001, HO_402000, HO_402001, BK368, BK378, BK401, HB, BK407, GW407, GE407, NB368_407, NB407_368, NB378_407, NB407_378, NB401_407, NB407_401⟩ := n_; clear hb hbox hg; have hnb111 := NB407_368.out; have hnc111 := NB368_407.out; have hnb112 := NB407_378.out; have hnc112 := NB378_407.out; have hnb113 := NB407_401.out; have hnc113 := NB401_407.out; obtain ⟨hcz114_0, hcz114_1, hcz114_2, hcz114_3, hcz114_4, hfz114_0, hfz114_1, hfz114_2, hfz114_3, hfz114_4⟩ := zB5 BK407.out; have hd114_3 : World.cell? (World.setCell (World.setCell (World.setCell (World.setCell w110 ⟨gb407, 0, none⟩ (.int .i64 (rd_T37 t352 x17_3).f0)) ⟨gb407, 1, none⟩ (.int .i64 (rd_T37 t352 x17_3).f1)) ⟨gb407, 2, none⟩ (.int .i64 (rd_T37 t352 x17_3).f2)) ⟨gb407, 3, none⟩ (.int .i64 (rd_T37 t352 x17_3).f3)) ⟨gb407, 3, none⟩ = some (.int .i64 (rd_T37 t352 x17_3).f3) := by rw [World.cell?_setCell_same' _ _ _ (by go_simp)]) | ((with_reducible refine gate_builtin (b := .append) (xs := #[.tmp 156, .tmp 158]) rfl ?_); at_builtin; refine zaz k37 (w0 := w) w.heap.size rfl (.tmp 156) (.tmp 158) 23 37 (.agg #[(.int .i64 0), (.int .i64 0), (.int .i64 0), (.int .i64 0), (.int .i64 0)]) 40 rfl Try.underlying23 info37 rfl zG126 (by omega) u16 x16_3 (⟨(rd_T37 t352 x17_3).f0, (rd_T37 t352 x17_3).f1, (rd_T37 t352 x17_3).f2, wrap64 (((rd_T37 t352 x17_3).f3) + 40), (rd_T37 t352 x17_3).f4⟩ : S37) [.int .i64 ((rd_T37 t352 x17_3).f0), .int .i64 ((rd_T37 t352 x17_3).f1), .int .i64 ((rd_T37 t352 x17_3).f2), .int .i64 (wrap64 (((rd_T37 t352 x17_3).f3) + 40)), .int .i64 ((rd_T37 t352 x17_3).f4)] (fun k_ => some k_ ≠ (.slice (some ad406) t352.length co8 : Value).ownBlock ∧ k_ ≠ gb407) (fun _ => False) rfl zK220 ?aP (fun _ hk => hk.elim) ?aF ?aO ?aB ?aS ?aL ?_; (case aP => exact zH49); (case aB => exact zG81); (case aF => exact zH0); (case aO => exact zH2); (case aS => exact (zt zG81)); (case aL => have := LMc104.out; omega); intro v409 w115 ho hb hg hat; rw [← Ny408.out] at ho; have n_ := zA_ (za (zat (ok := (fun k_ => k_ ≠ gb407)) zK124 hg hat)) (zA_ (za (zal zK131 (zam zG65) zG126 hg)) (zA_ (za (zal zK132 (zam zG65) zG126 hg)) (zA_ (za (zal zK133 (zam zG65) zG126 hg)) (zA_ (za (zal zK134 (zam zG65) zG126 hg)) (zA_ (za (zal zK135 (zam zG65) zG126 hg)) (zA_ (za (zal zK136 (zam zG65) zG126 hg)) (zA_ (za (zak (g := gb368) (o := .cells #[.slice Ao11 t359.length co11, .slice Ao13 t362.length co13, .int .i64 t365, .int .i64 t366] 28 (0, 0)) zK121 hg (zan HO_16.out BK368.out zG126))) (zA_ (za (zak (g := gb378) (o := .cells #[.slice Ao17 t369.length co17, .slice Ao20 t372.length co20, .int .i64 t375, .int .i64 t376] 28 (0, 0)) zK122 hg (zan HO_16.out BK378.out zG126))) (zA_ (za (zak (g := gb401) (o := .cells #[.slice Ao55 t392.length co55, .slice Ao59 t395.length co59, .int .i64 t398, .int .i64 t399] 28 (0, 0)) zK123 hg (zan HO_16.out BK401.out zG126))) (zA_ (za (zak (g := gb407) (o := .cells #[.int .i64 ((rd_T37 t352 x17_3).f0), .int .i64 ((rd_T37 t352 x17_3).f1), .int .i64 ((rd_T37 t352 x17_3).f2), .int .i64 (wrap64 (((rd_T37 t352 x17_3).f3) + 40)), .int .i64 ((rd_T37 t352 x17_3).f4)] 37 (0, 0)) zK111 hg (zay HO_16.out (fun _ hk => hk.2)))) (zA_ (za (hb)) (za (ho))))))))))))); clear HO_3 HO_369000 HO_369001 HO_379000 HO_379001 HO_402000 HO_402001 BK368 BK378 BK401 BK407 HB HO_16; obtain ⟨HO_3, HO_369000, HO_369001, HO_379000, HO_379001, HO_402000, HO_402001, BK368, BK378, BK401, BK407, HB, HO410⟩ := n_; clear ho hb hg hat; have hnb116 := NB368_378.out; have hnc116 := NB378_368.out; have hnb117 := NB368_401.out; have hnc117 := NB401_368.out; obtain ⟨hcz118_0, hcz118_1, hcz118_2, hcz118_3, hfz118_0, hfz118_1, hfz118_2, hfz118_3⟩ := zB4 BK368.out; have p411 : 0 ≤ (x17_3 : Int) := zO; have q411 : x17_3 < (t359.length : Int) := zO; obtain ⟨ad411, e411, hx411_0⟩ := zao (zw HO_369000.out).2.2 x17_3 p411 q411; cases e411; replace p411 := eq_true p411; replace q411 := eq_true q411; have p412 : 0 ≤ (x17_3 : Int) := zO; have q412 : x17_3 < (t362.length : Int) := zO; obtain ⟨ad412, e412, hx412_0⟩ := zao (zw HO_369001.out).2.2 x17_3 p412 q412; cases e412; replace p412 := eq_true p412; replace q412 := eq_true q412; have p413 : 0 ≤ ((rd t359 x17_3) : Int) := zO; have q413 : (rd t359 x17_3) < (t352.length : Int) := zO; obtain ⟨ad413, e413, hx413_0, hx413_1, hx413_2, hx413_3, hx413_4⟩ := at_T37 (zw HO_3.out).2.2 (rd t359 x17_3) p413 q413; obtain rfl : ad406 = ad413 := (by injection e413); replace p413 := eq_true p413; replace q413 := eq_true q413)))
        go_ret
        exact ⟨zH92, zH38⟩
       rw [if_neg c109] at H
       have c109b0 : decide (((rd_T37 t352 (rd t359 x17_3)).f3) < (rd t362 x17_3)) = false := decide_eq_false c109
       clear c109
       have H' := za H
       clear H
       have p406 : 0 ≤ (x17_3 : Int) := zO
       have q406 : x17_3 < (t352.length : Int) := zO
       obtain ⟨ad406, e406, hx406_0, hx406_1, hx406_2, hx406_3, hx406_4⟩ := at_T37 (zw HO_3.out).2.2 x17_3 p406 q406
       cases e406
       replace p406 := eq_true p406
       replace q406 := eq_true q406
       go_wp2_with (first | ((with_reducible refine gate_dst (N := 18) rfl ?_); refine box_event ?hg (N := 18) ?hd (cs := #[.int .i64 0, .int .i64 0, .int .i64 0, .int .i64 0, .int .i64 0]) (t := 37) ?hr ?_; (case hd => rfl); (case hg => rfl); (case hr => exact zH103); intro gb407 hg w119 hbox hb; have n_ := zA_ (za (zp (zba zG123 gb407 (Nat.le_of_eq hg.symm)) hb)) (zA_ (za (zp (zba zG122 gb407 (Nat.le_of_eq hg.symm)) hb)) (zA_ (za (zp zG111 hb)) (zA_ (za (zp zG112 hb)) (zA_ (za (zp zG113 hb)) (zA_ (za (zp zG114 hb)) (zA_ (za (zp zG115 hb)) (zA_ (za (zp zG116 hb)) (zA_ (za (zs (g := gb368) (o := .cells #[.slice Ao11 t359.length co11, .slice Ao13 t362.length co13, .int .i64 t365, .int .i64 t366] 28 (0, 0)) zG103 hb)) (zA_ (za (zs (g := gb378) (o := .cells #[.slice Ao17 t369.length co17, .slice Ao20 t372.length co20, .int .i64 t375, .int .i64 t376] 28 (0, 0)) zG104 hb)) (zA_ (za (zs (g := gb401) (o := .cells #[.slice Ao55 t392.length co55, .slice Ao59 t395.length co59, .int .i64 t398, .int .i64 t399] 28 (0, 0)) zG105 hb)) (zA_ (za (zv zG83 hb)) (zA_ (za (hbox)) (zA_ (zN1 w.heap.size hg (zt zG83)) (zA_ (zN1 w.heap.size hg (zt zG83)) (zN3 hg (zac (g := gb368) (o := .cells #[.slice Ao11 t359.length co11, .slice Ao13 t362.length co13, .int .i64 t365, .int .i64 t366] 28 (0, 0)) zG103) (zN3 hg (zac (g := gb378) (o := .cells #[.slice Ao17 t369.length co17, .slice Ao20 t372.length co20, .int .i64 t375, .int .i64 t376] 28 (0, 0)) zG104) (zN2 hg (zac (g := gb401) (o := .cells #[.slice Ao55 t392.length co55, .slice Ao59 t395.length co59, .int .i64 t398, .int .i64 t399] 28 (0, 0)) zG105)))))))))))))))))); clear HO_3 HO_16 HO_369000 HO_369001 HO_379000 HO_379001 HO_402000 HO_402001 BK368 BK378 BK401 HB; obtain ⟨HO_3, HO_16, HO_369000, HO_369001, HO_379000, HO_379001, HO_402000, HO_402001, BK368, BK378, BK401, HB, BK407, GW407, GE407, NB368_407, NB407_368, NB378_407, NB407_378, NB401_407, NB407_401⟩ := n_; clear hb hbox hg; have hnb120 := NB407_368.out; have hnc120 := NB368_407.out; have hnb121 := NB407_378.out; have hnc121 := NB378_407.out; have hnb122 := NB407_401.out; have hnc122 := NB401_407.out; obtain ⟨hcz123_0, hcz123_1, hcz123_2, hcz123_3, hcz123_4, hfz123_0, hfz123_1, hfz123_2, hfz123_3, hfz123_4⟩ := zB5 BK407.out; have hd123_3 : World.cell? (World.setCell (World.setCell (World.setCell (World.setCell w119 ⟨gb407, 0, none⟩ (.int .i64 (rd_T37 t352 x17_3).f0)) ⟨gb407, 1, none⟩ (.int .i64 (rd_T37 t352 x17_3).f1)) ⟨gb407, 2, none⟩ (.int .i64 (rd_T37 t352 x17_3).f2)) ⟨gb407, 3, none⟩ (.int .i64 (rd_T37 t352 x17_3).f3)) ⟨gb407, 3, none⟩ = some (.int .i64 (rd_T37 t352 x17_3).f3) := by rw [World.cell?_setCell_same' _ _ _ (by go_simp)]) | ((with_reducible refine gate_builtin (b := .append) (xs := #[.tmp 156, .tmp 158]) rfl ?_); at_builtin; refine zaz k37 (w0 := w) w.heap.size rfl (.tmp 156) (.tmp 158) 23 37 (.agg #[(.int .i64 0), (.int .i64 0), (.int .i64 0), (.int .i64 0), (.int .i64 0)]) 40 rfl Try.underlying23 info37 rfl zG126 (by omega) u16 x16_3 (⟨(rd_T37 t352 x17_3).f0, (rd_T37 t352 x17_3).f1, (rd_T37 t352 x17_3).f2, wrap64 (((rd_T37 t352 x17_3).f3) + 40), (rd_T37 t352 x17_3).f4⟩ : S37) [.int .i64 ((rd_T37 t352 x17_3).f0), .int .i64 ((rd_T37 t352 x17_3).f1), .int .i64 ((rd_T37 t352 x17_3).f2), .int .i64 (wrap64 (((rd_T37 t352 x17_3).f3) + 40)), .int .i64 ((rd_T37 t352 x17_3).f4)] (fun k_ => some k_ ≠ (.slice (some ad406) t352.length co8 : Value).ownBlock ∧ k_ ≠ gb407) (fun _ => False) rfl zK220 ?aP (fun _ hk => hk.elim) ?aF ?aO ?aB ?aS ?aL ?_; (case aP => exact zH49); (case aB => exact zG81); (case aF => exact zH0); (case aO => exact zH2); (case aS => exact (zt zG81)); (case aL => have := LMc104.out; omega); intro v409 w124 ho hb hg hat; rw [← Ny408.out] at ho; have n_ := zA_ (za (zat (ok := (fun k_ => k_ ≠ gb407)) zK124 hg hat)) (zA_ (za (zal zK131 (zam zG65) zG126 hg)) (zA_ (za (zal zK132 (zam zG65) zG126 hg)) (zA_ (za (zal zK133 (zam zG65) zG126 hg)) (zA_ (za (zal zK134 (zam zG65) zG126 hg)) (zA_ (za (zal zK135 (zam zG65) zG126 hg)) (zA_ (za (zal zK136 (zam zG65) zG126 hg)) (zA_ (za (zak (g := gb368) (o := .cells #[.slice Ao11 t359.length co11, .slice Ao13 t362.length co13, .int .i64 t365, .int .i64 t366] 28 (0, 0)) zK121 hg (zan HO_16.out BK368.out zG126))) (zA_ (za (zak (g := gb378) (o := .cells #[.slice Ao17 t369.length co17, .slice Ao20 t372.length co20, .int .i64 t375, .int .i64 t376] 28 (0, 0)) zK122 hg (zan HO_16.out BK378.out zG126))) (zA_ (za (zak (g := gb401) (o := .cells #[.slice Ao55 t392.length co55, .slice Ao59 t395.length co59, .int .i64 t398, .int .i64 t399] 28 (0, 0)) zK123 hg (zan HO_16.out BK401.out zG126))) (zA_ (za (zak (g := gb407) (o := .cells #[.int .i64 ((rd_T37 t352 x17_3).f0), .int .i64 ((rd_T37 t352 x17_3).f1), .int .i64 ((rd_T37 t352 x17_3).f2), .int .i64 (wrap64 (((rd_T37 t352 x17_3).f3) + 40)), .int .i64 ((rd_T37 t352 x17_3).f4)] 37 (0, 0)) zK111 hg (zay HO_16.out (fun _ hk => hk.2)))) (zA_ (za (hb)) (za (ho))))))))))))); clear HO_3 HO_369000 HO_369001 HO_379000 HO_379001 HO_402000 HO_402001 BK368 BK378 BK401 BK407 HB HO_16; obtain ⟨HO_3, HO_369000, HO_369001, HO_379000, HO_379001, HO_402000, HO_402001, BK368, BK378, BK401, BK407, HB, HO410⟩ := n_; clear ho hb hg hat; have hnb125 := NB368_378.out; have hnc125 := NB378_368.out; have hnb126 := NB368_401.out; have hnc126 := NB401_368.out; obtain ⟨hcz127_0, hcz127_1, hcz127_2, hcz127_3, hfz127_0, hfz127_1, hfz127_2, hfz127_3⟩ := zB4 BK368.out; have p411 : 0 ≤ (x17_3 : Int) := zO; have q411 : x17_3 < (t359.length : Int) := zO; obtain ⟨ad411, e411, hx411_0⟩ := zao (zw HO_369000.out).2.2 x17_3 p411 q411; cases e411; replace p411 := eq_true p411; replace q411 := eq_true q411; have p412 : 0 ≤ (x17_3 : Int) := zO; have q412 : x17_3 < (t362.length : Int) := zO; obtain ⟨ad412, e412, hx412_0⟩ := zao (zw HO_369001.out).2.2 x17_3 p412 q412; cases e412; replace p412 := eq_true p412; replace q412 := eq_true q412; have p413 : 0 ≤ ((rd t359 x17_3) : Int) := zO; have q413 : (rd t359 x17_3) < (t352.length : Int) := zO; obtain ⟨ad413, e413, hx413_0, hx413_1, hx413_2, hx413_3, hx413_4⟩ := at_T37 (zw HO_3.out).2.2 (rd t359 x17_3) p413 q413; obtain rfl : ad406 = ad413 := (by injection e413); replace p413 := eq_true p413; replace q413 := eq_true q413))
       repeat (go_quiet (first | ((with_reducible refine gate_dst (N := 18) rfl ?_); refine box_event ?hg (N := 18) ?hd (cs := #[.int .i64 0, .int .i64 0, .int .i64 0, .int .i64 0, .int .i64 0]) (t := 37) ?hr ?_; (case hd => rfl); (case hg => rfl); (case hr => exact zH103); intro gb407 hg w119 hbox hb; have n_ := zA_ (za (zp (zba zG123 gb407 (Nat.le_of_eq hg.symm)) hb)) (zA_ (za (zp (zba zG122 gb407 (Nat.le_of_eq hg.symm)) hb)) (zA_ (za (zp zG111 hb)) (zA_ (za (zp zG112 hb)) (zA_ (za (zp zG113 hb)) (zA_ (za (zp zG114 hb)) (zA_ (za (zp zG115 hb)) (zA_ (za (zp zG116 hb)) (zA_ (za (zs (g := gb368) (o := .cells #[.slice Ao11 t359.length co11, .slice Ao13 t362.length co13, .int .i64 t365, .int .i64 t366] 28 (0, 0)) zG103 hb)) (zA_ (za (zs (g := gb378) (o := .cells #[.slice Ao17 t369.length co17, .slice Ao20 t372.length co20, .int .i64 t375, .int .i64 t376] 28 (0, 0)) zG104 hb)) (zA_ (za (zs (g := gb401) (o := .cells #[.slice Ao55 t392.length co55, .slice Ao59 t395.length co59, .int .i64 t398, .int .i64 t399] 28 (0, 0)) zG105 hb)) (zA_ (za (zv zG83 hb)) (zA_ (za (hbox)) (zA_ (zN1 w.heap.size hg (zt zG83)) (zA_ (zN1 w.heap.size hg (zt zG83)) (zN3 hg (zac (g := gb368) (o := .cells #[.slice Ao11 t359.length co11, .slice Ao13 t362.length co13, .int .i64 t365, .int .i64 t366] 28 (0, 0)) zG103) (zN3 hg (zac (g := gb378) (o := .cells #[.slice Ao17 t369.length co17, .slice Ao20 t372.length co20, .int .i64 t375, .int .i64 t376] 28 (0, 0)) zG104) (zN2 hg (zac (g := gb401) (o := .cells #[.slice Ao55 t392.length co55, .slice Ao59 t395.length co59, .int .i64 t398, .int .i64 t399] 28 (0, 0)) zG105)))))))))))))))))); clear HO_3 HO_16 HO_369000 HO_369001 HO_379000 HO_379001 HO_402000 HO_402001 BK368 BK378 BK401 HB; obtain ⟨HO_3, HO_16, HO_369000, HO_369001, HO_379000, HO_379001, HO_402000, HO_402001, BK368, BK378, BK401, HB, BK407, GW407, GE407, NB368_407, NB407_368, NB378_407, NB407_378, NB401_407, NB407_401⟩ := n_; clear hb hbox hg; have hnb120 := NB407_368.out; have hnc120 := NB368_407.out; have hnb121 := NB407_378.out; have hnc121 := NB378_407.out; have hnb122 := NB407_401.out; have hnc122 := NB401_407.out; obtain ⟨hcz123_0, hcz123_1, hcz123_2, hcz123_3, hcz123_4, hfz123_0, hfz123_1, hfz123_2, hfz123_3, hfz123_4⟩ := zB5 BK407.out; have hd123_3 : World.cell? (World.setCell (World.setCell (World.setCell (World.setCell w119 ⟨gb407, 0, none⟩ (.int .i64 (rd_T37 t352 x17_3).f0)) ⟨gb407, 1, none⟩ (.int .i64 (rd_T37 t352 x17_3).f1)) ⟨gb407, 2, none⟩ (.int .i64 (rd_T37 t352 x17_3).f2)) ⟨gb407, 3, none⟩ (.int .i64 (rd_T37 t352 x17_3).f3)) ⟨gb407, 3, none⟩ = some (.int .i64 (rd_T37 t352 x17_3).f3) := by rw [World.cell?_setCell_same' _ _ _ (by go_simp)]) | ((with_reducible refine gate_builtin (b := .append) (xs := #[.tmp 156, .tmp 158]) rfl ?_); at_builtin; refine zaz k37 (w0 := w) w.heap.size rfl (.tmp 156) (.tmp 158) 23 37 (.agg #[(.int .i64 0), (.int .i64 0), (.int .i64 0), (.int .i64 0), (.int .i64 0)]) 40 rfl Try.underlying23 info37 rfl zG126 (by omega) u16 x16_3 (⟨(rd_T37 t352 x17_3).f0, (rd_T37 t352 x17_3).f1, (rd_T37 t352 x17_3).f2, wrap64 (((rd_T37 t352 x17_3).f3) + 40), (rd_T37 t352 x17_3).f4⟩ : S37) [.int .i64 ((rd_T37 t352 x17_3).f0), .int .i64 ((rd_T37 t352 x17_3).f1), .int .i64 ((rd_T37 t352 x17_3).f2), .int .i64 (wrap64 (((rd_T37 t352 x17_3).f3) + 40)), .int .i64 ((rd_T37 t352 x17_3).f4)] (fun k_ => some k_ ≠ (.slice (some ad406) t352.length co8 : Value).ownBlock ∧ k_ ≠ gb407) (fun _ => False) rfl zK220 ?aP (fun _ hk => hk.elim) ?aF ?aO ?aB ?aS ?aL ?_; (case aP => exact zH49); (case aB => exact zG81); (case aF => exact zH0); (case aO => exact zH2); (case aS => exact (zt zG81)); (case aL => have := LMc104.out; omega); intro v409 w124 ho hb hg hat; rw [← Ny408.out] at ho; have n_ := zA_ (za (zat (ok := (fun k_ => k_ ≠ gb407)) zK124 hg hat)) (zA_ (za (zal zK131 (zam zG65) zG126 hg)) (zA_ (za (zal zK132 (zam zG65) zG126 hg)) (zA_ (za (zal zK133 (zam zG65) zG126 hg)) (zA_ (za (zal zK134 (zam zG65) zG126 hg)) (zA_ (za (zal zK135 (zam zG65) zG126 hg)) (zA_ (za (zal zK136 (zam zG65) zG126 hg)) (zA_ (za (zak (g := gb368) (o := .cells #[.slice Ao11 t359.length co11, .slice Ao13 t362.length co13, .int .i64 t365, .int .i64 t366] 28 (0, 0)) zK121 hg (zan HO_16.out BK368.out zG126))) (zA_ (za (zak (g := gb378) (o := .cells #[.slice Ao17 t369.length co17, .slice Ao20 t372.length co20, .int .i64 t375, .int .i64 t376] 28 (0, 0)) zK122 hg (zan HO_16.out BK378.out zG126))) (zA_ (za (zak (g := gb401) (o := .cells #[.slice Ao55 t392.length co55, .slice Ao59 t395.length co59, .int .i64 t398, .int .i64 t399] 28 (0, 0)) zK123 hg (zan HO_16.out BK401.out zG126))) (zA_ (za (zak (g := gb407) (o := .cells #[.int .i64 ((rd_T37 t352 x17_3).f0), .int .i64 ((rd_T37 t352 x17_3).f1), .int .i64 ((rd_T37 t352 x17_3).f2), .int .i64 (wrap64 (((rd_T37 t352 x17_3).f3) + 40)), .int .i64 ((rd_T37 t352 x17_3).f4)] 37 (0, 0)) zK111 hg (zay HO_16.out (fun _ hk => hk.2)))) (zA_ (za (hb)) (za (ho))))))))))))); clear HO_3 HO_369000 HO_369001 HO_379000 HO_379001 HO_402000 HO_402001 BK368 BK378 BK401 BK407 HB HO_16; obtain ⟨HO_3, HO_369000, HO_369001, HO_379000, HO_379001, HO_402000, HO_402001, BK368, BK378, BK401, BK407, HB, HO410⟩ := n_; clear ho hb hg hat; have hnb125 := NB368_378.out; have hnc125 := NB378_368.out; have hnb126 := NB368_401.out; have hnc126 := NB401_368.out; obtain ⟨hcz127_0, hcz127_1, hcz127_2, hcz127_3, hfz127_0, hfz127_1, hfz127_2, hfz127_3⟩ := zB4 BK368.out; have p411 : 0 ≤ (x17_3 : Int) := zO; have q411 : x17_3 < (t359.length : Int) := zO; obtain ⟨ad411, e411, hx411_0⟩ := zao (zw HO_369000.out).2.2 x17_3 p411 q411; cases e411; replace p411 := eq_true p411; replace q411 := eq_true q411; have p412 : 0 ≤ (x17_3 : Int) := zO; have q412 : x17_3 < (t362.length : Int) := zO; obtain ⟨ad412, e412, hx412_0⟩ := zao (zw HO_369001.out).2.2 x17_3 p412 q412; cases e412; replace p412 := eq_true p412; replace q412 := eq_true q412; have p413 : 0 ≤ ((rd t359 x17_3) : Int) := zO; have q413 : (rd t359 x17_3) < (t352.length : Int) := zO; obtain ⟨ad413, e413, hx413_0, hx413_1, hx413_2, hx413_3, hx413_4⟩ := at_T37 (zw HO_3.out).2.2 (rd t359 x17_3) p413 q413; obtain rfl : ad406 = ad413 := (by injection e413); replace p413 := eq_true p413; replace q413 := eq_true q413)); try go_wp2_with (first | ((with_reducible refine gate_dst (N := 18) rfl ?_); refine box_event ?hg (N := 18) ?hd (cs := #[.int .i64 0, .int .i64 0, .int .i64 0, .int .i64 0, .int .i64 0]) (t := 37) ?hr ?_; (case hd => rfl); (case hg => rfl); (case hr => exact zH103); intro gb407 hg w119 hbox hb; have n_ := zA_ (za (zp (zba zG123 gb407 (Nat.le_of_eq hg.symm)) hb)) (zA_ (za (zp (zba zG122 gb407 (Nat.le_of_eq hg.symm)) hb)) (zA_ (za (zp zG111 hb)) (zA_ (za (zp zG112 hb)) (zA_ (za (zp zG113 hb)) (zA_ (za (zp zG114 hb)) (zA_ (za (zp zG115 hb)) (zA_ (za (zp zG116 hb)) (zA_ (za (zs (g := gb368) (o := .cells #[.slice Ao11 t359.length co11, .slice Ao13 t362.length co13, .int .i64 t365, .int .i64 t366] 28 (0, 0)) zG103 hb)) (zA_ (za (zs (g := gb378) (o := .cells #[.slice Ao17 t369.length co17, .slice Ao20 t372.length co20, .int .i64 t375, .int .i64 t376] 28 (0, 0)) zG104 hb)) (zA_ (za (zs (g := gb401) (o := .cells #[.slice Ao55 t392.length co55, .slice Ao59 t395.length co59, .int .i64 t398, .int .i64 t399] 28 (0, 0)) zG105 hb)) (zA_ (za (zv zG83 hb)) (zA_ (za (hbox)) (zA_ (zN1 w.heap.size hg (zt zG83)) (zA_ (zN1 w.heap.size hg (zt zG83)) (zN3 hg (zac (g := gb368) (o := .cells #[.slice Ao11 t359.length co11, .slice Ao13 t362.length co13, .int .i64 t365, .int .i64 t366] 28 (0, 0)) zG103) (zN3 hg (zac (g := gb378) (o := .cells #[.slice Ao17 t369.length co17, .slice Ao20 t372.length co20, .int .i64 t375, .int .i64 t376] 28 (0, 0)) zG104) (zN2 hg (zac (g := gb401) (o := .cells #[.slice Ao55 t392.length co55, .slice Ao59 t395.length co59, .int .i64 t398, .int .i64 t399] 28 (0, 0)) zG105)))))))))))))))))); clear HO_3 HO_16 HO_369000 HO_369001 HO_379000 HO_379001 HO_402000 HO_402001 BK368 BK378 BK401 HB; obtain ⟨HO_3, HO_16, HO_369000, HO_369001, HO_379000, HO_379001, HO_402000, HO_402001, BK368, BK378, BK401, HB, BK407, GW407, GE407, NB368_407, NB407_368, NB378_407, NB407_378, NB401_407, NB407_401⟩ := n_; clear hb hbox hg; have hnb120 := NB407_368.out; have hnc120 := NB368_407.out; have hnb121 := NB407_378.out; have hnc121 := NB378_407.out; have hnb122 := NB407_401.out; have hnc122 := NB401_407.out; obtain ⟨hcz123_0, hcz123_1, hcz123_2, hcz123_3, hcz123_4, hfz123_0, hfz123_1, hfz123_2, hfz123_3, hfz123_4⟩ := zB5 BK407.out; have hd123_3 : World.cell? (World.setCell (World.setCell (World.setCell (World.setCell w119 ⟨gb407, 0, none⟩ (.int .i64 (rd_T37 t352 x17_3).f0)) ⟨gb407, 1, none⟩ (.int .i64 (rd_T37 t352 x17_3).f1)) ⟨gb407, 2, none⟩ (.int .i64 (rd_T37 t352 x17_3).f2)) ⟨gb407, 3, none⟩ (.int .i64 (rd_T37 t352 x17_3).f3)) ⟨gb407, 3, none⟩ = some (.int .i64 (rd_T37 t352 x17_3).f3) := by rw [World.cell?_setCell_same' _ _ _ (by go_simp)]) | ((with_reducible refine gate_builtin (b := .append) (xs := #[.tmp 156, .tmp 158]) rfl ?_); at_builtin; refine zaz k37 (w0 := w) w.heap.size rfl (.tmp 156) (.tmp 158) 23 37 (.agg #[(.int .i64 0), (.int .i64 0), (.int .i64 0), (.int .i64 0), (.int .i64 0)]) 40 rfl Try.underlying23 info37 rfl zG126 (by omega) u16 x16_3 (⟨(rd_T37 t352 x17_3).f0, (rd_T37 t352 x17_3).f1, (rd_T37 t352 x17_3).f2, wrap64 (((rd_T37 t352 x17_3).f3) + 40), (rd_T37 t352 x17_3).f4⟩ : S37) [.int .i64 ((rd_T37 t352 x17_3).f0), .int .i64 ((rd_T37 t352 x17_3).f1), .int .i64 ((rd_T37 t352 x17_3).f2), .int .i64 (wrap64 (((rd_T37 t352 x17_3).f3) + 40)), .int .i64 ((rd_T37 t352 x17_3).f4)] (fun k_ => some k_ ≠ (.slice (some ad406) t352.length co8 : Value).ownBlock ∧ k_ ≠ gb407) (fun _ => False) rfl zK220 ?aP (fun _ hk => hk.elim) ?aF ?aO ?aB ?aS ?aL ?_; (case aP => exact zH49); (case aB => exact zG81); (case aF => exact zH0); (case aO => exact zH2); (case aS => exact (zt zG81)); (case aL => have := LMc104.out; omega); intro v409 w124 ho hb hg hat; rw [← Ny408.out] at ho; have n_ := zA_ (za (zat (ok := (fun k_ => k_ ≠ gb407)) zK124 hg hat)) (zA_ (za (zal zK131 (zam zG65) zG126 hg)) (zA_ (za (zal zK132 (zam zG65) zG126 hg)) (zA_ (za (zal zK133 (zam zG65) zG126 hg)) (zA_ (za (zal zK134 (zam zG65) zG126 hg)) (zA_ (za (zal zK135 (zam zG65) zG126 hg)) (zA_ (za (zal zK136 (zam zG65) zG126 hg)) (zA_ (za (zak (g := gb368) (o := .cells #[.slice Ao11 t359.length co11, .slice Ao13 t362.length co13, .int .i64 t365, .int .i64 t366] 28 (0, 0)) zK121 hg (zan HO_16.out BK368.out zG126))) (zA_ (za (zak (g := gb378) (o := .cells #[.slice Ao17 t369.length co17, .slice Ao20 t372.length co20, .int .i64 t375, .int .i64 t376] 28 (0, 0)) zK122 hg (zan HO_16.out BK378.out zG126))) (zA_ (za (zak (g := gb401) (o := .cells #[.slice Ao55 t392.length co55, .slice Ao59 t395.length co59, .int .i64 t398, .int .i64 t399] 28 (0, 0)) zK123 hg (zan HO_16.out BK401.out zG126))) (zA_ (za (zak (g := gb407) (o := .cells #[.int .i64 ((rd_T37 t352 x17_3).f0), .int .i64 ((rd_T37 t352 x17_3).f1), .int .i64 ((rd_T37 t352 x17_3).f2), .int .i64 (wrap64 (((rd_T37 t352 x17_3).f3) + 40)), .int .i64 ((rd_T37 t352 x17_3).f4)] 37 (0, 0)) zK111 hg (zay HO_16.out (fun _ hk => hk.2)))) (zA_ (za (hb)) (za (ho))))))))))))); clear HO_3 HO_369000 HO_369001 HO_379000 HO_379001 HO_402000 HO_402001 BK368 BK378 BK401 BK407 HB HO_16; obtain ⟨HO_3, HO_369000, HO_369001, HO_379000, HO_379001, HO_402000, HO_402001, BK368, BK378, BK401, BK407, HB, HO410⟩ := n_; clear ho hb hg hat; have hnb125 := NB368_378.out; have hnc125 := NB378_368.out; have hnb126 := NB368_401.out; have hnc126 := NB401_368.out; obtain ⟨hcz127_0, hcz127_1, hcz127_2, hcz127_3, hfz127_0, hfz127_1, hfz127_2, hfz127_3⟩ := zB4 BK368.out; have p411 : 0 ≤ (x17_3 : Int) := zO; have q411 : x17_3 < (t359.length : Int) := zO; obtain ⟨ad411, e411, hx411_0⟩ := zao (zw HO_369000.out).2.2 x17_3 p411 q411; cases e411; replace p411 := eq_true p411; replace q411 := eq_true q411; have p412 : 0 ≤ (x17_3 : Int) := zO; have q412 : x17_3 < (t362.length : Int) := zO; obtain ⟨ad412, e412, hx412_0⟩ := zao (zw HO_369001.out).2.2 x17_3 p412 q412; cases e412; replace p412 := eq_true p412; replace q412 := eq_true q412; have p413 : 0 ≤ ((rd t359 x17_3) : Int) := zO; have q413 : (rd t359 x17_3) < (t352.length : Int) := zO; obtain ⟨ad413, e413, hx413_0, hx413_1, hx413_2, hx413_3, hx413_4⟩ := at_T37 (zw HO_3.out).2.2 (rd t359 x17_3) p413 q413; obtain rfl : ad406 = ad413 := (by injection e413); replace p413 := eq_true p413; replace q413 := eq_true q413)))
       go_roundg k3
       case measure => have := HJ5.out; have := HJ48.out; have := HK3.out; omega
       case rel => exact ⟨(y408), (wrap64 (x17_3 + 1)), zG124, H', ⟨by have := HJ5.out; have := HJ48.out; have := HK3.out; omega⟩, ⟨by (with_reducible repeat (first | apply zf | apply zg | apply zh)); exact zo HO_3.out (fun _ hk => hk.2)⟩, ⟨by (with_reducible repeat (first | apply zf | apply zg | apply zh)); exact zo HO410.out (fun _ hk => hk.1)⟩, ⟨by (with_reducible repeat (first | apply zf | apply zg | apply zh)); exact HO_369000.out⟩, ⟨by (with_reducible repeat (first | apply zf | apply zg | apply zh)); exact HO_369001.out⟩, ⟨by (with_reducible repeat (first | apply zf | apply zg | apply zh)); exact HO_379000.out⟩, ⟨by (with_reducible repeat (first | apply zf | apply zg | apply zh)); exact HO_379001.out⟩, ⟨by (with_reducible repeat (first | apply zf | apply zg | apply zh)); exact HO_402000.out⟩, ⟨by (with_reducible repeat (first | apply zf | apply zg | apply zh)); exact HO_402001.out⟩, ⟨zH85⟩, ⟨zH86⟩, ⟨by (with_reducible repeat (first | refine zc ?_ _ | refine ze ?_ | refine zb ?_ _)); exact BK401.out⟩, ⟨zH38⟩⟩
end Go.Proofs.Ytojncbpeeboooaa.Q
