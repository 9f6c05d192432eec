-- squeezed
-- made by pp.py (wip/tools) out of the translation; Lean checks it
import Derived.Test.YtjibigpdbpipcaaR0
import Derived.Test.YtjibigpdbpipcaaR1
import Derived.Test.YtjibigpdbpipcaaR6
import Derived.Test.YtjibigpdbpipcaaR11
import Derived.Test.YtjibigpdbpipcaaR12
import Derived.Test.YtjibigpdbpipcaaR13
import Derived.Test.YtjibigpdbpipcaaR14
namespace Go.Proofs.Ytjibigpdbpipcaa.R
open Go.RowKit Go.Proofs.YtjibigpdbpipcaaW.PrintWords Go.Proofs.YtjibigpdbpipcaaW.PrintLast Go.Proofs.YtjibigpdbpipcaaW.PrintMore
attribute [local go_sem] max2_int min2_int max_two min_two max_three min_three max_four min_four   -- for this text's walks alone
set_option linter.unusedVariables false
set_option linter.unusedSimpArgs false


/-! ### laws_FnExactRosterOf: function 4 -/
mutual
def laws_FnExactRosterOf.j0 : Nat → List (S90) → List (S94) → List Int → Int → Int → List (S98) → List (S100) → List Int → Int → Int → Bool → List Int → Int → List Int → Int → Option (Bool)
 | 0, _, _, _, _, _, _, _, _, _, _, _, _, _, _, _ => none
 | k + 1, x0, x1, x2, x9, x10, x11, x12, x13, x15, x16, x74, x316000, x316001, x332000, x332001 => if x74 = true then (some false) else ((laws_toShiftS.f k x0).bind fun t333 => ((laws_eqShiftS.f k x11 t333).bind fun t336 => (if t336 = true then ((laws_toWorkerS.f k x1).bind fun t337 => ((laws_eqWorkerS.f k x12 t337).bind fun t340 => (if t340 = true then ((laws_toIntS.f k x2).bind fun t341 => ((laws_eqIntS.f k x13 t341).bind fun t344 => (if t344 = true then ((laws_markShiftS.f k x11 1).bind fun bt345 => ((laws_markWorkerS.f k x12 bt345.1).bind fun t347 => ((laws_markIntS.f k x13 t347).bind fun bt348 => (if bt348.1 < 0 then (laws_FnExactRosterOf.j1 k x0 x1 x2 x9 x10 true x316000 x316001 x332000 x332001) else ((laws_eqRoster.f k x332000 x332001 x316000 x316001).bind fun t350 => (if t350 = true then (if x15 = x9 then (laws_FnExactRosterOf.j1 k x0 x1 x2 x9 x10 (x16 != x10) x316000 x316001 x332000 x332001) else (laws_FnExactRosterOf.j1 k x0 x1 x2 x9 x10 true x316000 x316001 x332000 x332001)) else (laws_FnExactRosterOf.j1 k x0 x1 x2 x9 x10 true x316000 x316001 x332000 x332001))))))) else (some false)))) else (some false)))) else (some false))))
def laws_FnExactRosterOf.j1 : Nat → List (S90) → List (S94) → List Int → Int → Int → Bool → List Int → Int → List Int → Int → Option (Bool)
 | 0, _, _, _, _, _, _, _, _, _, _ => none
 | k + 1, x0, x1, x2, x9, x10, x116, x316000, x316001, x332000, x332001 => if x116 = true then (some false) else ((laws_markRoster.f k x332000 x332001 1).bind fun bt351 => ((laws_heldRoster.f k bt351.2 x332001 1).bind fun t353 => (if t353 < 0 then (some false) else (if t353 = bt351.1 then ((laws_toShiftS.f k x0).bind fun t354 => ((laws_toWorkerS.f k x1).bind fun t357 => ((laws_toIntS.f k x2).bind fun t360 => ((impl_RosterOf.f k t354 t357 t360).bind fun bt363 => ((laws_eqRoster.f k bt363.1 bt363.2.1 x316000 x316001).bind fun t370 => (if t370 = true then (if bt363.2.2.1 = x9 then (laws_FnExactRosterOf.j2 k bt351.1 (bt363.2.2.2 != x10) bt351.2 x332001) else (laws_FnExactRosterOf.j2 k bt351.1 true bt351.2 x332001)) else (laws_FnExactRosterOf.j2 k bt351.1 true bt351.2 x332001))))))) else (some false)))))
def laws_FnExactRosterOf.j2 : Nat → Int → Bool → List Int → Int → Option (Bool)
 | 0, _, _, _, _ => none
 | k + 1, x18, x152, x332000, x332001 => if x152 = true then (some false) else ((laws_heldRoster.f k x332000 x332001 1).bind fun t371 => (if t371 < 0 then (some false) else (if t371 = x18 then (some true) else (some false))))
end
def laws_FnExactRosterOf.f (k : Nat) (l0 : List (S90)) (l1 : List (S94)) (l2 : List Int) : Option (Bool) := if (l2.length : Int) > 1048576 then (some true) else ((laws_szShiftS.f k l0 1048576).bind fun t298 => (if t298 < 0 then (some true) else ((laws_szWorkerS.f k l1 t298).bind fun t299 => (if t299 < 0 then (some true) else ((laws_toShiftS.f k l0).bind fun t300 => ((laws_toWorkerS.f k l1).bind fun t303 => ((laws_toIntS.f k l2).bind fun t306 => ((spec_RosterOf.f k t300 t303 t306).bind fun bt309 => ((laws_toShiftS.f k l0).bind fun t316 => ((laws_toWorkerS.f k l1).bind fun t319 => ((laws_toIntS.f k l2).bind fun t322 => ((impl_RosterOf.f k t316 t319 t322).bind fun bt325 => ((laws_eqRoster.f k bt325.1 bt325.2.1 bt309.1 bt309.2.1).bind fun t332 => (if t332 = true then (if bt325.2.2.1 = bt309.2.2.1 then (laws_FnExactRosterOf.j0 k l0 l1 l2 bt309.2.2.1 bt309.2.2.2 t316 t319 t322 bt325.2.2.1 bt325.2.2.2 (bt325.2.2.2 != bt309.2.2.2) bt309.1 bt309.2.1 bt325.1 bt325.2.1) else (laws_FnExactRosterOf.j0 k l0 l1 l2 bt309.2.2.1 bt309.2.2.2 t316 t319 t322 bt325.2.2.1 bt325.2.2.2 true bt309.1 bt309.2.1 bt325.1 bt325.2.1)) else (laws_FnExactRosterOf.j0 k l0 l1 l2 bt309.2.2.1 bt309.2.2.2 t316 t319 t322 bt325.2.2.1 bt325.2.2.2 true bt309.1 bt309.2.1 bt325.1 bt325.2.1)))))))))))))))
theorem laws_FnExactRosterOf.mono_l : ∀ k, (∀ y0 y1 y2 y3 y4 y5 y6 y7 y8 y9 y10 y11 y12 y13 y14, LeO (laws_FnExactRosterOf.j0 k y0 y1 y2 y3 y4 y5 y6 y7 y8 y9 y10 y11 y12 y13 y14) (laws_FnExactRosterOf.j0 (k + 1) y0 y1 y2 y3 y4 y5 y6 y7 y8 y9 y10 y11 y12 y13 y14)) ∧ (∀ y0 y1 y2 y3 y4 y5 y6 y7 y8 y9, LeO (laws_FnExactRosterOf.j1 k y0 y1 y2 y3 y4 y5 y6 y7 y8 y9) (laws_FnExactRosterOf.j1 (k + 1) y0 y1 y2 y3 y4 y5 y6 y7 y8 y9)) ∧ (∀ y0 y1 y2 y3, LeO (laws_FnExactRosterOf.j2 k y0 y1 y2 y3) (laws_FnExactRosterOf.j2 (k + 1) y0 y1 y2 y3))
 | 0 => ⟨fun _ _ _ _ _ _ _ _ _ _ _ _ _ _ _ r h => by simp [laws_FnExactRosterOf.j0] at h, fun _ _ _ _ _ _ _ _ _ _ r h => by simp [laws_FnExactRosterOf.j1] at h, fun _ _ _ _ r h => by simp [laws_FnExactRosterOf.j2] at h⟩
 | k + 1 => by
  obtain ⟨ih0, ih1, ih2⟩ := laws_FnExactRosterOf.mono_l k
  refine ⟨?_, ?_, ?_⟩
  ·intro y0 y1 y2 y3 y4 y5 y6 y7 y8 y9 y10 y11 y12 y13 y14
   unfold laws_FnExactRosterOf.j0
   repeat' first
   | (with_reducible exact ih0 _ _ _ _ _ _ _ _ _ _ _ _ _ _ _)
   | (with_reducible exact ih1 _ _ _ _ _ _ _ _ _ _)
   | (with_reducible exact ih2 _ _ _ _)
   | (with_reducible exact impl_RosterOf.mono _ _ _ _)
   | (with_reducible exact laws_eqIntS.mono _ _ _)
   | (with_reducible exact laws_eqRoster.mono _ _ _ _ _)
   | (with_reducible exact laws_eqShiftS.mono _ _ _)
   | (with_reducible exact laws_eqWorkerS.mono _ _ _)
   | (with_reducible exact laws_heldRoster.mono _ _ _ _)
   | (with_reducible exact laws_markIntS.mono _ _ _)
   | (with_reducible exact laws_markRoster.mono _ _ _ _)
   | (with_reducible exact laws_markShiftS.mono _ _ _)
   | (with_reducible exact laws_markWorkerS.mono _ _ _)
   | (with_reducible exact laws_szShiftS.mono _ _ _)
   | (with_reducible exact laws_szWorkerS.mono _ _ _)
   | (with_reducible exact laws_toIntS.mono _ _)
   | (with_reducible exact laws_toShiftS.mono _ _)
   | (with_reducible exact laws_toWorkerS.mono _ _)
   | (with_reducible exact spec_RosterOf.mono _ _ _ _)
   | (with_reducible exact LeO.refl _)
   | (with_reducible exact LeO.none _)
   | (with_reducible refine LeO.ite ?_ ?_)
   | (with_reducible refine LeO.bind ?_ (fun _ => ?_))
   | exact ih0 _ _ _ _ _ _ _ _ _ _ _ _ _ _ _
   | exact ih1 _ _ _ _ _ _ _ _ _ _
   | exact ih2 _ _ _ _
   | exact impl_RosterOf.mono _ _ _ _
   | exact laws_eqIntS.mono _ _ _
   | exact laws_eqRoster.mono _ _ _ _ _
   | exact laws_eqShiftS.mono _ _ _
   | exact laws_eqWorkerS.mono _ _ _
   | exact laws_heldRoster.mono _ _ _ _
   | exact laws_markIntS.mono _ _ _
   | exact laws_markRoster.mono _ _ _ _
   | exact laws_markShiftS.mono _ _ _
   | exact laws_markWorkerS.mono _ _ _
   | exact laws_szShiftS.mono _ _ _
   | exact laws_szWorkerS.mono _ _ _
   | exact laws_toIntS.mono _ _
   | exact laws_toShiftS.mono _ _
   | exact laws_toWorkerS.mono _ _
   | exact spec_RosterOf.mono _ _ _ _
   | exact LeO.none _
   | refine LeO.ite ?_ ?_
   | refine LeO.bind ?_ (fun _ => ?_)
  ·intro y0 y1 y2 y3 y4 y5 y6 y7 y8 y9
   unfold laws_FnExactRosterOf.j1
   repeat' first
   | (with_reducible exact ih0 _ _ _ _ _ _ _ _ _ _ _ _ _ _ _)
   | (with_reducible exact ih1 _ _ _ _ _ _ _ _ _ _)
   | (with_reducible exact ih2 _ _ _ _)
   | (with_reducible exact impl_RosterOf.mono _ _ _ _)
   | (with_reducible exact laws_eqIntS.mono _ _ _)
   | (with_reducible exact laws_eqRoster.mono _ _ _ _ _)
   | (with_reducible exact laws_eqShiftS.mono _ _ _)
   | (with_reducible exact laws_eqWorkerS.mono _ _ _)
   | (with_reducible exact laws_heldRoster.mono _ _ _ _)
   | (with_reducible exact laws_markIntS.mono _ _ _)
   | (with_reducible exact laws_markRoster.mono _ _ _ _)
   | (with_reducible exact laws_markShiftS.mono _ _ _)
   | (with_reducible exact laws_markWorkerS.mono _ _ _)
   | (with_reducible exact laws_szShiftS.mono _ _ _)
   | (with_reducible exact laws_szWorkerS.mono _ _ _)
   | (with_reducible exact laws_toIntS.mono _ _)
   | (with_reducible exact laws_toShiftS.mono _ _)
   | (with_reducible exact laws_toWorkerS.mono _ _)
   | (with_reducible exact spec_RosterOf.mono _ _ _ _)
   | (with_reducible exact LeO.refl _)
   | (with_reducible exact LeO.none _)
   | (with_reducible refine LeO.ite ?_ ?_)
   | (with_reducible refine LeO.bind ?_ (fun _ => ?_))
   | exact ih0 _ _ _ _ _ _ _ _ _ _ _ _ _ _ _
   | exact ih1 _ _ _ _ _ _ _ _ _ _
   | exact ih2 _ _ _ _
   | exact impl_RosterOf.mono _ _ _ _
   | exact laws_eqIntS.mono _ _ _
   | exact laws_eqRoster.mono _ _ _ _ _
   | exact laws_eqShiftS.mono _ _ _
   | exact laws_eqWorkerS.mono _ _ _
   | exact laws_heldRoster.mono _ _ _ _
   | exact laws_markIntS.mono _ _ _
   | exact laws_markRoster.mono _ _ _ _
   | exact laws_markShiftS.mono _ _ _
   | exact laws_markWorkerS.mono _ _ _
   | exact laws_szShiftS.mono _ _ _
   | exact laws_szWorkerS.mono _ _ _
   | exact laws_toIntS.mono _ _
   | exact laws_toShiftS.mono _ _
   | exact laws_toWorkerS.mono _ _
   | exact spec_RosterOf.mono _ _ _ _
   | exact LeO.none _
   | refine LeO.ite ?_ ?_
   | refine LeO.bind ?_ (fun _ => ?_)
  ·intro y0 y1 y2 y3
   unfold laws_FnExactRosterOf.j2
   repeat' first
   | (with_reducible exact ih0 _ _ _ _ _ _ _ _ _ _ _ _ _ _ _)
   | (with_reducible exact ih1 _ _ _ _ _ _ _ _ _ _)
   | (with_reducible exact ih2 _ _ _ _)
   | (with_reducible exact impl_RosterOf.mono _ _ _ _)
   | (with_reducible exact laws_eqIntS.mono _ _ _)
   | (with_reducible exact laws_eqRoster.mono _ _ _ _ _)
   | (with_reducible exact laws_eqShiftS.mono _ _ _)
   | (with_reducible exact laws_eqWorkerS.mono _ _ _)
   | (with_reducible exact laws_heldRoster.mono _ _ _ _)
   | (with_reducible exact laws_markIntS.mono _ _ _)
   | (with_reducible exact laws_markRoster.mono _ _ _ _)
   | (with_reducible exact laws_markShiftS.mono _ _ _)
   | (with_reducible exact laws_markWorkerS.mono _ _ _)
   | (with_reducible exact laws_szShiftS.mono _ _ _)
   | (with_reducible exact laws_szWorkerS.mono _ _ _)
   | (with_reducible exact laws_toIntS.mono _ _)
   | (with_reducible exact laws_toShiftS.mono _ _)
   | (with_reducible exact laws_toWorkerS.mono _ _)
   | (with_reducible exact spec_RosterOf.mono _ _ _ _)
   | (with_reducible exact LeO.refl _)
   | (with_reducible exact LeO.none _)
   | (with_reducible refine LeO.ite ?_ ?_)
   | (with_reducible refine LeO.bind ?_ (fun _ => ?_))
   | exact ih0 _ _ _ _ _ _ _ _ _ _ _ _ _ _ _
   | exact ih1 _ _ _ _ _ _ _ _ _ _
   | exact ih2 _ _ _ _
   | exact impl_RosterOf.mono _ _ _ _
   | exact laws_eqIntS.mono _ _ _
   | exact laws_eqRoster.mono _ _ _ _ _
   | exact laws_eqShiftS.mono _ _ _
   | exact laws_eqWorkerS.mono _ _ _
   | exact laws_heldRoster.mono _ _ _ _
   | exact laws_markIntS.mono _ _ _
   | exact laws_markRoster.mono _ _ _ _
   | exact laws_markShiftS.mono _ _ _
   | exact laws_markWorkerS.mono _ _ _
   | exact laws_szShiftS.mono _ _ _
   | exact laws_szWorkerS.mono _ _ _
   | exact laws_toIntS.mono _ _
   | exact laws_toShiftS.mono _ _
   | exact laws_toWorkerS.mono _ _
   | exact spec_RosterOf.mono _ _ _ _
   | exact LeO.none _
   | refine LeO.ite ?_ ?_
   | refine LeO.bind ?_ (fun _ => ?_)
theorem laws_FnExactRosterOf.mono : ∀ a0 a1 a2 k, LeO (laws_FnExactRosterOf.f k a0 a1 a2) (laws_FnExactRosterOf.f (k + 1) a0 a1 a2) := by
 intro a0 a1 a2 k
 obtain ⟨ih0, ih1, ih2⟩ := laws_FnExactRosterOf.mono_l k
 unfold laws_FnExactRosterOf.f
 repeat' first
   | (with_reducible exact ih0 _ _ _ _ _ _ _ _ _ _ _ _ _ _ _)
   | (with_reducible exact ih1 _ _ _ _ _ _ _ _ _ _)
   | (with_reducible exact ih2 _ _ _ _)
   | (with_reducible exact impl_RosterOf.mono _ _ _ _)
   | (with_reducible exact laws_eqIntS.mono _ _ _)
   | (with_reducible exact laws_eqRoster.mono _ _ _ _ _)
   | (with_reducible exact laws_eqShiftS.mono _ _ _)
   | (with_reducible exact laws_eqWorkerS.mono _ _ _)
   | (with_reducible exact laws_heldRoster.mono _ _ _ _)
   | (with_reducible exact laws_markIntS.mono _ _ _)
   | (with_reducible exact laws_markRoster.mono _ _ _ _)
   | (with_reducible exact laws_markShiftS.mono _ _ _)
   | (with_reducible exact laws_markWorkerS.mono _ _ _)
   | (with_reducible exact laws_szShiftS.mono _ _ _)
   | (with_reducible exact laws_szWorkerS.mono _ _ _)
   | (with_reducible exact laws_toIntS.mono _ _)
   | (with_reducible exact laws_toShiftS.mono _ _)
   | (with_reducible exact laws_toWorkerS.mono _ _)
   | (with_reducible exact spec_RosterOf.mono _ _ _ _)
   | (with_reducible exact LeO.refl _)
   | (with_reducible exact LeO.none _)
   | (with_reducible refine LeO.ite ?_ ?_)
   | (with_reducible refine LeO.bind ?_ (fun _ => ?_))
   | exact ih0 _ _ _ _ _ _ _ _ _ _ _ _ _ _ _
   | exact ih1 _ _ _ _ _ _ _ _ _ _
   | exact ih2 _ _ _ _
   | exact impl_RosterOf.mono _ _ _ _
   | exact laws_eqIntS.mono _ _ _
   | exact laws_eqRoster.mono _ _ _ _ _
   | exact laws_eqShiftS.mono _ _ _
   | exact laws_eqWorkerS.mono _ _ _
   | exact laws_heldRoster.mono _ _ _ _
   | exact laws_markIntS.mono _ _ _
   | exact laws_markRoster.mono _ _ _ _
   | exact laws_markShiftS.mono _ _ _
   | exact laws_markWorkerS.mono _ _ _
   | exact laws_szShiftS.mono _ _ _
   | exact laws_szWorkerS.mono _ _ _
   | exact laws_toIntS.mono _ _
   | exact laws_toShiftS.mono _ _
   | exact laws_toWorkerS.mono _ _
   | exact spec_RosterOf.mono _ _ _ _
   | exact LeO.none _
   | refine LeO.ite ?_ ?_
   | refine LeO.bind ?_ (fun _ => ?_)
set_option maxHeartbeats 8000000 in
set_option maxRecDepth 100000 in
theorem laws_FnExactRosterOf.calls (k : Nat) (A0 : Option Addr) (c0 : Nat) (l0 : List (S90)) (A1 : Option Addr) (c1 : Nat) (l1 : List (S94)) (A2 : Option Addr) (c2 : Nat) (l2 : List Int) (r : Bool) (w : World) (hr0 : Kd.C k90 w A0 l0.length l0) (hc0 : l0.length ≤ c0) (hr1 : Kd.C k94 w A1 l1.length l1) (hc1 : l1.length ≤ c1) (hr2 : Kd.C (Kd.int .i64) w A2 l2.length l2) (hc2 : l2.length ≤ c2) (h : laws_FnExactRosterOf.f k l0 l1 l2 = some r) :
  Calls Try.prog 4 #[.slice A0 l0.length c0, .slice A1 l1.length c1, .slice A2 l2.length c2] w fun e w' => e = .returned (.bool r) ∧ Below w.heap.size w w' := by
 have hu50 := Try.underlying50
 have HR0 := zb hr0
 have HC0 := zb hc0
 clear hr0 hc0
 have HR1 := zb hr1
 have HC1 := zb hc1
 clear hr1 hc1
 have HR2 := zb hr2
 have HC2 := zb hc2
 clear hr2 hc2
 have HB := zb (Below.refl w.heap.size w)
 have H : (if (l2.length : Int) > 1048576 then (some true) else ((laws_szShiftS.f k l0 1048576).bind fun t298 => (if t298 < 0 then (some true) else ((laws_szWorkerS.f k l1 t298).bind fun t299 => (if t299 < 0 then (some true) else ((laws_toShiftS.f k l0).bind fun t300 => ((laws_toWorkerS.f k l1).bind fun t303 => ((laws_toIntS.f k l2).bind fun t306 => ((spec_RosterOf.f k t300 t303 t306).bind fun bt309 => ((laws_toShiftS.f k l0).bind fun t316 => ((laws_toWorkerS.f k l1).bind fun t319 => ((laws_toIntS.f k l2).bind fun t322 => ((impl_RosterOf.f k t316 t319 t322).bind fun bt325 => ((laws_eqRoster.f k bt325.1 bt325.2.1 bt309.1 bt309.2.1).bind fun t332 => (if t332 = true then (if bt325.2.2.1 = bt309.2.2.1 then (laws_FnExactRosterOf.j0 k l0 l1 l2 bt309.2.2.1 bt309.2.2.2 t316 t319 t322 bt325.2.2.1 bt325.2.2.2 (bt325.2.2.2 != bt309.2.2.2) bt309.1 bt309.2.1 bt325.1 bt325.2.1) else (laws_FnExactRosterOf.j0 k l0 l1 l2 bt309.2.2.1 bt309.2.2.2 t316 t319 t322 bt325.2.2.1 bt325.2.2.2 true bt309.1 bt309.2.1 bt325.1 bt325.2.1)) else (laws_FnExactRosterOf.j0 k l0 l1 l2 bt309.2.2.1 bt309.2.2.2 t316 t319 t322 bt325.2.2.1 bt325.2.2.2 true bt309.1 bt309.2.1 bt325.1 bt325.2.1)))))))))))))))) = some r := h
 clear h
 by_cases c4 : (l2.length : Int) > 1048576
 ·rw [if_pos c4] at H
  have c4b0 : decide (1048576 < (l2.length : Int)) = true := decide_eq_true c4
  have c4b1 : decide (1048576 < l2.length) = true := decide_eq_true (by omega)
  clear c4
  obtain rfl := Option.some.inj H
  go_enter Try.func4, Try.ntmps4
  go_wp2
  go_ret
  exact zH24
 rw [if_neg c4] at H
 have c4b0 : decide (1048576 < (l2.length : Int)) = false := decide_eq_false c4
 have c4b1 : decide (1048576 < l2.length) = false := decide_eq_false (by omega)
 clear c4
 replace H := Option.bind_eq_some_iff.mp H
 obtain ⟨t298, A50, H⟩ := H
 replace H : (if t298 < 0 then (some true) else ((laws_szWorkerS.f k l1 t298).bind fun t299 => (if t299 < 0 then (some true) else ((laws_toShiftS.f k l0).bind fun t300 => ((laws_toWorkerS.f k l1).bind fun t303 => ((laws_toIntS.f k l2).bind fun t306 => ((spec_RosterOf.f k t300 t303 t306).bind fun bt309 => ((laws_toShiftS.f k l0).bind fun t316 => ((laws_toWorkerS.f k l1).bind fun t319 => ((laws_toIntS.f k l2).bind fun t322 => ((impl_RosterOf.f k t316 t319 t322).bind fun bt325 => ((laws_eqRoster.f k bt325.1 bt325.2.1 bt309.1 bt309.2.1).bind fun t332 => (if t332 = true then (if bt325.2.2.1 = bt309.2.2.1 then (laws_FnExactRosterOf.j0 k l0 l1 l2 bt309.2.2.1 bt309.2.2.2 t316 t319 t322 bt325.2.2.1 bt325.2.2.2 (bt325.2.2.2 != bt309.2.2.2) bt309.1 bt309.2.1 bt325.1 bt325.2.1) else (laws_FnExactRosterOf.j0 k l0 l1 l2 bt309.2.2.1 bt309.2.2.2 t316 t319 t322 bt325.2.2.1 bt325.2.2.2 true bt309.1 bt309.2.1 bt325.1 bt325.2.1)) else (laws_FnExactRosterOf.j0 k l0 l1 l2 bt309.2.2.1 bt309.2.2.2 t316 t319 t322 bt325.2.2.1 bt325.2.2.2 true bt309.1 bt309.2.1 bt325.1 bt325.2.1)))))))))))))) = some r := H
 have A5 := zb A50
 clear A50
 by_cases c6 : t298 < 0
 ·rw [if_pos c6] at H
  have c6b0 := decide_eq_true c6
  clear c6
  obtain rfl := Option.some.inj H
  go_enter Try.func4, Try.ntmps4
  go_wp2_with (first | ((with_reducible refine gate_callee (f := 21) rfl ?_); refine goesL_ (some 28) rfl rfl Try.func21 zG96 rfl #[.slice A0 l0.length c0, .int .i64 1048576] rfl zG65 ?_; (with_reducible refine (laws_szShiftS.calls k _ _ l0 1048576 t298 _ ?side1 ?side2 A5.out).mono ?_); (case side1 => exact zH54); (case side2 => exact HC0.out); rintro e w7 ⟨rfl, hb⟩; refine ⟨_, rfl, ?_⟩; replace HB := zb (zq zG76 hb); (try clear hb)))
  go_ret
  exact zH24
 rw [if_neg c6] at H
 have c6b0 := decide_eq_false c6
 clear c6
 replace H := Option.bind_eq_some_iff.mp H
 obtain ⟨t299, A80, H⟩ := H
 replace H : (if t299 < 0 then (some true) else ((laws_toShiftS.f k l0).bind fun t300 => ((laws_toWorkerS.f k l1).bind fun t303 => ((laws_toIntS.f k l2).bind fun t306 => ((spec_RosterOf.f k t300 t303 t306).bind fun bt309 => ((laws_toShiftS.f k l0).bind fun t316 => ((laws_toWorkerS.f k l1).bind fun t319 => ((laws_toIntS.f k l2).bind fun t322 => ((impl_RosterOf.f k t316 t319 t322).bind fun bt325 => ((laws_eqRoster.f k bt325.1 bt325.2.1 bt309.1 bt309.2.1).bind fun t332 => (if t332 = true then (if bt325.2.2.1 = bt309.2.2.1 then (laws_FnExactRosterOf.j0 k l0 l1 l2 bt309.2.2.1 bt309.2.2.2 t316 t319 t322 bt325.2.2.1 bt325.2.2.2 (bt325.2.2.2 != bt309.2.2.2) bt309.1 bt309.2.1 bt325.1 bt325.2.1) else (laws_FnExactRosterOf.j0 k l0 l1 l2 bt309.2.2.1 bt309.2.2.2 t316 t319 t322 bt325.2.2.1 bt325.2.2.2 true bt309.1 bt309.2.1 bt325.1 bt325.2.1)) else (laws_FnExactRosterOf.j0 k l0 l1 l2 bt309.2.2.1 bt309.2.2.2 t316 t319 t322 bt325.2.2.1 bt325.2.2.2 true bt309.1 bt309.2.1 bt325.1 bt325.2.1)))))))))))) = some r := H
 have A8 := zb A80
 clear A80
 by_cases c9 : t299 < 0
 ·rw [if_pos c9] at H
  have c9b0 := decide_eq_true c9
  clear c9
  obtain rfl := Option.some.inj H
  go_enter Try.func4, Try.ntmps4
  go_wp2_with (first | ((with_reducible refine gate_callee (f := 21) rfl ?_); refine goesL_ (some 28) rfl rfl Try.func21 zG96 rfl #[.slice A0 l0.length c0, .int .i64 1048576] rfl zG65 ?_; (with_reducible refine (laws_szShiftS.calls k _ _ l0 1048576 t298 _ ?side1 ?side2 A5.out).mono ?_); (case side1 => exact zH54); (case side2 => exact HC0.out); rintro e w10 ⟨rfl, hb⟩; refine ⟨_, rfl, ?_⟩; replace HB := zb (zq zG76 hb); (try clear hb)) | ((with_reducible refine gate_callee (f := 22) rfl ?_); refine goesL_ (some 33) rfl rfl Try.func22 zG96 rfl #[.slice A1 l1.length c1, .int .i64 t298] rfl zG65 ?_; (with_reducible refine (laws_szWorkerS.calls k _ _ l1 t298 t299 _ ?side1 ?side2 A8.out).mono ?_); (case side1 => exact zH49); (case side2 => exact HC1.out); rintro e w11 ⟨rfl, hb⟩; refine ⟨_, rfl, ?_⟩; replace HB := zb (zq zG76 hb); (try clear hb)))
  go_ret
  exact zH24
 rw [if_neg c9] at H
 have c9b0 := decide_eq_false c9
 clear c9
 replace H := Option.bind_eq_some_iff.mp H
 obtain ⟨t300, A120, H⟩ := H
 replace H : ((laws_toWorkerS.f k l1).bind fun t303 => ((laws_toIntS.f k l2).bind fun t306 => ((spec_RosterOf.f k t300 t303 t306).bind fun bt309 => ((laws_toShiftS.f k l0).bind fun t316 => ((laws_toWorkerS.f k l1).bind fun t319 => ((laws_toIntS.f k l2).bind fun t322 => ((impl_RosterOf.f k t316 t319 t322).bind fun bt325 => ((laws_eqRoster.f k bt325.1 bt325.2.1 bt309.1 bt309.2.1).bind fun t332 => (if t332 = true then (if bt325.2.2.1 = bt309.2.2.1 then (laws_FnExactRosterOf.j0 k l0 l1 l2 bt309.2.2.1 bt309.2.2.2 t316 t319 t322 bt325.2.2.1 bt325.2.2.2 (bt325.2.2.2 != bt309.2.2.2) bt309.1 bt309.2.1 bt325.1 bt325.2.1) else (laws_FnExactRosterOf.j0 k l0 l1 l2 bt309.2.2.1 bt309.2.2.2 t316 t319 t322 bt325.2.2.1 bt325.2.2.2 true bt309.1 bt309.2.1 bt325.1 bt325.2.1)) else (laws_FnExactRosterOf.j0 k l0 l1 l2 bt309.2.2.1 bt309.2.2.2 t316 t319 t322 bt325.2.2.1 bt325.2.2.2 true bt309.1 bt309.2.1 bt325.1 bt325.2.1)))))))))) = some r := H
 have A12 := zb A120
 clear A120
 replace H := Option.bind_eq_some_iff.mp H
 obtain ⟨t303, A130, H⟩ := H
 replace H : ((laws_toIntS.f k l2).bind fun t306 => ((spec_RosterOf.f k t300 t303 t306).bind fun bt309 => ((laws_toShiftS.f k l0).bind fun t316 => ((laws_toWorkerS.f k l1).bind fun t319 => ((laws_toIntS.f k l2).bind fun t322 => ((impl_RosterOf.f k t316 t319 t322).bind fun bt325 => ((laws_eqRoster.f k bt325.1 bt325.2.1 bt309.1 bt309.2.1).bind fun t332 => (if t332 = true then (if bt325.2.2.1 = bt309.2.2.1 then (laws_FnExactRosterOf.j0 k l0 l1 l2 bt309.2.2.1 bt309.2.2.2 t316 t319 t322 bt325.2.2.1 bt325.2.2.2 (bt325.2.2.2 != bt309.2.2.2) bt309.1 bt309.2.1 bt325.1 bt325.2.1) else (laws_FnExactRosterOf.j0 k l0 l1 l2 bt309.2.2.1 bt309.2.2.2 t316 t319 t322 bt325.2.2.1 bt325.2.2.2 true bt309.1 bt309.2.1 bt325.1 bt325.2.1)) else (laws_FnExactRosterOf.j0 k l0 l1 l2 bt309.2.2.1 bt309.2.2.2 t316 t319 t322 bt325.2.2.1 bt325.2.2.2 true bt309.1 bt309.2.1 bt325.1 bt325.2.1))))))))) = some r := H
 have A13 := zb A130
 clear A130
 replace H := Option.bind_eq_some_iff.mp H
 obtain ⟨t306, A140, H⟩ := H
 replace H : ((spec_RosterOf.f k t300 t303 t306).bind fun bt309 => ((laws_toShiftS.f k l0).bind fun t316 => ((laws_toWorkerS.f k l1).bind fun t319 => ((laws_toIntS.f k l2).bind fun t322 => ((impl_RosterOf.f k t316 t319 t322).bind fun bt325 => ((laws_eqRoster.f k bt325.1 bt325.2.1 bt309.1 bt309.2.1).bind fun t332 => (if t332 = true then (if bt325.2.2.1 = bt309.2.2.1 then (laws_FnExactRosterOf.j0 k l0 l1 l2 bt309.2.2.1 bt309.2.2.2 t316 t319 t322 bt325.2.2.1 bt325.2.2.2 (bt325.2.2.2 != bt309.2.2.2) bt309.1 bt309.2.1 bt325.1 bt325.2.1) else (laws_FnExactRosterOf.j0 k l0 l1 l2 bt309.2.2.1 bt309.2.2.2 t316 t319 t322 bt325.2.2.1 bt325.2.2.2 true bt309.1 bt309.2.1 bt325.1 bt325.2.1)) else (laws_FnExactRosterOf.j0 k l0 l1 l2 bt309.2.2.1 bt309.2.2.2 t316 t319 t322 bt325.2.2.1 bt325.2.2.2 true bt309.1 bt309.2.1 bt325.1 bt325.2.1)))))))) = some r := H
 have A14 := zb A140
 clear A140
 replace H := Option.bind_eq_some_iff.mp H
 obtain ⟨⟨t309, t312, t313, t314⟩, A150, H⟩ := H
 replace H : ((laws_toShiftS.f k l0).bind fun t316 => ((laws_toWorkerS.f k l1).bind fun t319 => ((laws_toIntS.f k l2).bind fun t322 => ((impl_RosterOf.f k t316 t319 t322).bind fun bt325 => ((laws_eqRoster.f k bt325.1 bt325.2.1 t309 t312).bind fun t332 => (if t332 = true then (if bt325.2.2.1 = t313 then (laws_FnExactRosterOf.j0 k l0 l1 l2 t313 t314 t316 t319 t322 bt325.2.2.1 bt325.2.2.2 (bt325.2.2.2 != t314) t309 t312 bt325.1 bt325.2.1) else (laws_FnExactRosterOf.j0 k l0 l1 l2 t313 t314 t316 t319 t322 bt325.2.2.1 bt325.2.2.2 true t309 t312 bt325.1 bt325.2.1)) else (laws_FnExactRosterOf.j0 k l0 l1 l2 t313 t314 t316 t319 t322 bt325.2.2.1 bt325.2.2.2 true t309 t312 bt325.1 bt325.2.1))))))) = some r := H
 have A15 := zb A150
 clear A150
 replace H := Option.bind_eq_some_iff.mp H
 obtain ⟨t316, A160, H⟩ := H
 replace H : ((laws_toWorkerS.f k l1).bind fun t319 => ((laws_toIntS.f k l2).bind fun t322 => ((impl_RosterOf.f k t316 t319 t322).bind fun bt325 => ((laws_eqRoster.f k bt325.1 bt325.2.1 t309 t312).bind fun t332 => (if t332 = true then (if bt325.2.2.1 = t313 then (laws_FnExactRosterOf.j0 k l0 l1 l2 t313 t314 t316 t319 t322 bt325.2.2.1 bt325.2.2.2 (bt325.2.2.2 != t314) t309 t312 bt325.1 bt325.2.1) else (laws_FnExactRosterOf.j0 k l0 l1 l2 t313 t314 t316 t319 t322 bt325.2.2.1 bt325.2.2.2 true t309 t312 bt325.1 bt325.2.1)) else (laws_FnExactRosterOf.j0 k l0 l1 l2 t313 t314 t316 t319 t322 bt325.2.2.1 bt325.2.2.2 true t309 t312 bt325.1 bt325.2.1)))))) = some r := H
 have A16 := zb A160
 clear A160
 replace H := Option.bind_eq_some_iff.mp H
 obtain ⟨t319, A170, H⟩ := H
 replace H : ((laws_toIntS.f k l2).bind fun t322 => ((impl_RosterOf.f k t316 t319 t322).bind fun bt325 => ((laws_eqRoster.f k bt325.1 bt325.2.1 t309 t312).bind fun t332 => (if t332 = true then (if bt325.2.2.1 = t313 then (laws_FnExactRosterOf.j0 k l0 l1 l2 t313 t314 t316 t319 t322 bt325.2.2.1 bt325.2.2.2 (bt325.2.2.2 != t314) t309 t312 bt325.1 bt325.2.1) else (laws_FnExactRosterOf.j0 k l0 l1 l2 t313 t314 t316 t319 t322 bt325.2.2.1 bt325.2.2.2 true t309 t312 bt325.1 bt325.2.1)) else (laws_FnExactRosterOf.j0 k l0 l1 l2 t313 t314 t316 t319 t322 bt325.2.2.1 bt325.2.2.2 true t309 t312 bt325.1 bt325.2.1))))) = some r := H
 have A17 := zb A170
 clear A170
 replace H := Option.bind_eq_some_iff.mp H
 obtain ⟨t322, A180, H⟩ := H
 replace H : ((impl_RosterOf.f k t316 t319 t322).bind fun bt325 => ((laws_eqRoster.f k bt325.1 bt325.2.1 t309 t312).bind fun t332 => (if t332 = true then (if bt325.2.2.1 = t313 then (laws_FnExactRosterOf.j0 k l0 l1 l2 t313 t314 t316 t319 t322 bt325.2.2.1 bt325.2.2.2 (bt325.2.2.2 != t314) t309 t312 bt325.1 bt325.2.1) else (laws_FnExactRosterOf.j0 k l0 l1 l2 t313 t314 t316 t319 t322 bt325.2.2.1 bt325.2.2.2 true t309 t312 bt325.1 bt325.2.1)) else (laws_FnExactRosterOf.j0 k l0 l1 l2 t313 t314 t316 t319 t322 bt325.2.2.1 bt325.2.2.2 true t309 t312 bt325.1 bt325.2.1)))) = some r := H
 have A18 := zb A180
 clear A180
 replace H := Option.bind_eq_some_iff.mp H
 obtain ⟨⟨t325, t328, t329, t330⟩, A190, H⟩ := H
 replace H : ((laws_eqRoster.f k t325 t328 t309 t312).bind fun t332 => (if t332 = true then (if t329 = t313 then (laws_FnExactRosterOf.j0 k l0 l1 l2 t313 t314 t316 t319 t322 t329 t330 (t330 != t314) t309 t312 t325 t328) else (laws_FnExactRosterOf.j0 k l0 l1 l2 t313 t314 t316 t319 t322 t329 t330 true t309 t312 t325 t328)) else (laws_FnExactRosterOf.j0 k l0 l1 l2 t313 t314 t316 t319 t322 t329 t330 true t309 t312 t325 t328))) = some r := H
 have A19 := zb A190
 clear A190
 have HC20 := zb H
 clear H
 go_enter Try.func4, Try.ntmps4
 go_upto_region 15 with (first | ((with_reducible refine gate_callee (f := 21) rfl ?_); refine goesL_ (some 28) rfl rfl Try.func21 zG96 rfl #[.slice A0 l0.length c0, .int .i64 1048576] rfl zG65 ?_; (with_reducible refine (laws_szShiftS.calls k _ _ l0 1048576 t298 _ ?side1 ?side2 A5.out).mono ?_); (case side1 => exact zH54); (case side2 => exact HC0.out); rintro e w21 ⟨rfl, hb⟩; refine ⟨_, rfl, ?_⟩; replace HB := zb (zq zG76 hb); (try clear hb); (try clear hk)) | ((with_reducible refine gate_callee (f := 22) rfl ?_); refine goesL_ (some 33) rfl rfl Try.func22 zG96 rfl #[.slice A1 l1.length c1, .int .i64 t298] rfl zG65 ?_; (with_reducible refine (laws_szWorkerS.calls k _ _ l1 t298 t299 _ ?side1 ?side2 A8.out).mono ?_); (case side1 => exact zH49); (case side2 => exact HC1.out); rintro e w22 ⟨rfl, hb⟩; refine ⟨_, rfl, ?_⟩; replace HB := zb (zq zG76 hb); (try clear hb); (try clear hk)) | ((with_reducible refine gate_callee (f := 24) rfl ?_); refine goesL_ (some 38) rfl rfl Try.func24 zG96 rfl #[.slice A0 l0.length c0] rfl zG65 ?_; (with_reducible refine (laws_toShiftS.calls k _ _ l0 t300 _ ?side1 ?side2 A12.out).mono ?_); (case side1 => exact zH50); (case side2 => exact HC0.out); rintro e w23 ⟨v301, rfl, ho0, hb⟩; refine ⟨_, rfl, ?_⟩; have n_ := zA_ (zb (zag ho0 (zo zG76))) (zb (zq zG76 hb)); clear HB; obtain ⟨HO302, HB⟩ := n_; (try clear hb); (try clear hk); (try clear ho0)) | ((with_reducible refine gate_callee (f := 25) rfl ?_); refine goesL_ (some 40) rfl rfl Try.func25 zG96 rfl #[.slice A1 l1.length c1] rfl zG65 ?_; (with_reducible refine (laws_toWorkerS.calls k _ _ l1 t303 _ ?side1 ?side2 A13.out).mono ?_); (case side1 => exact zH49); (case side2 => exact HC1.out); rintro e w24 ⟨v304, rfl, ho0, hb⟩; refine ⟨_, rfl, ?_⟩; have n_ := zA_ (zb (zp zK189 hb)) (zA_ (zb (zbf ho0 (zo zG76))) (zb (zq zG76 hb))); clear HO302 HB; obtain ⟨HO302, HO305, HB⟩ := n_; (try clear hb); (try clear hk); (try clear ho0)) | ((with_reducible refine gate_callee (f := 10) rfl ?_); refine goesL_ (some 42) rfl rfl Try.func10 zG96 rfl #[.slice A2 l2.length c2] rfl zG65 ?_; (with_reducible refine (laws_toIntS.calls k _ _ l2 t306 _ ?side1 ?side2 A14.out).mono ?_); (case side1 => exact zH48); (case side2 => exact HC2.out); rintro e w25 ⟨v307, rfl, ho0, hb⟩; refine ⟨_, rfl, ?_⟩; have n_ := zA_ (zb (zp zK189 hb)) (zA_ (zb (zad zK184 hb)) (zA_ (zb (zag ho0 (zo zG76))) (zb (zq zG76 hb)))); clear HO302 HO305 HB; obtain ⟨HO302, HO305, HO308, HB⟩ := n_; (try clear hb); (try clear hk); (try clear ho0); obtain ⟨Ao26, co26, eo26⟩ := zah HO302.out; subst eo26; obtain ⟨Ao27, co27, eo27⟩ := zbg HO305.out; subst eo27; obtain ⟨Ao28, co28, eo28⟩ := zah HO308.out; subst eo28) | ((with_reducible refine gate_callee (f := 23) rfl ?_); refine goesL_ (some 43) rfl rfl Try.func23 zG96 rfl #[.slice Ao26 t300.length co26, .slice Ao27 t303.length co27, .slice Ao28 t306.length co28] rfl zG65 ?_; (with_reducible refine (spec_RosterOf.calls k _ _ t300 _ _ t303 _ _ t306 t309 t312 t313 t314 _ ?side1 ?side2 ?side3 ?side4 ?side5 ?side6 A15.out).mono ?_); (case side1 => repeat (first | exact (Kd.R_reads' HO302.out).2.2 | (with_reducible refine zr ?_ _) | (with_reducible refine zs ?_ _) | (with_reducible refine zt ?_))); (case side2 => exact (Kd.R_reads' HO302.out).2.1); (case side3 => repeat (first | exact (zak HO305.out).2.2 | (with_reducible refine zr ?_ _) | (with_reducible refine zs ?_ _) | (with_reducible refine zt ?_))); (case side4 => exact (zak HO305.out).2.1); (case side5 => repeat (first | exact (Kd.R_reads' HO308.out).2.2 | (with_reducible refine zr ?_ _) | (with_reducible refine zs ?_ _) | (with_reducible refine zt ?_))); (case side6 => exact (Kd.R_reads' HO308.out).2.1); rintro e w29 ⟨v310, rfl, ho0, hb⟩; refine ⟨_, rfl, ?_⟩; have n_ := zA_ (zb (zp zK189 hb)) (zA_ (zb (zad zK184 hb)) (zA_ (zb (zai zK190 (zal ho0) hb)) (zA_ (zb (zag (zan ho0 (zaq zK190)) (zo zG76))) (zb (zq zG76 hb))))); clear HO302 HO305 HO308 HB; obtain ⟨HO302, HO305, HO308, HO311, HB⟩ := n_; (try clear hb); (try clear hk); (try clear ho0)) | ((with_reducible refine gate_dst (N := 8) rfl ?_); refine box_event ?hg (N := 8) ?hd (cs := #[.slice none 0 0, .int .i64 0]) (t := 50) ?hr ?_; (case hd => rfl); (case hg => rfl); (case hr => exact zH100); intro gb315 hg w30 hbox hb; have n_ := zA_ (zb (zp zK189 hb)) (zA_ (zb (zad zK184 hb)) (zA_ (zb (zp zK190 hb)) (zA_ (zb (zp zK191 hb)) (zA_ (zb (zq zG76 hb)) (zA_ (zb (hbox)) (zA_ (zb ((by rw [hg]; exact (zo zG76) : w.heap.size ≤ gb315))) (zb ((by rw [hg]; exact (zo zG76) : w.heap.size ≤ gb315))))))))); clear HO302 HO305 HO308 HO311 HB; obtain ⟨HO302, HO305, HO308, HO311, HB, BK315, GW315, GE315⟩ := n_; clear hb hbox hg; obtain ⟨Ao31, co31, eo31⟩ := zah HO311.out; subst eo31; have hcz32_0 : w30.cell? ⟨gb315, 0, none⟩ = some (.slice none 0 0) := (zg BK315.out 0).trans rfl; have hcz32_1 : w30.cell? ⟨gb315, 1, none⟩ = some (.int .i64 0) := (zg BK315.out 1).trans rfl; have hfz32_0 := zf BK315.out 0; have hfz32_1 := zf BK315.out 1) | ((with_reducible refine gate_callee (f := 24) rfl ?_); refine goesL_ (some 48) rfl rfl Try.func24 zG96 rfl #[.slice A0 l0.length c0] rfl zG65 ?_; (with_reducible refine (laws_toShiftS.calls k _ _ l0 t316 _ ?side1 ?side2 A16.out).mono ?_); (case side1 => exact zw HR0.out zG69); (case side2 => exact HC0.out); rintro e w33 ⟨v317, rfl, ho0, hb⟩; refine ⟨_, rfl, ?_⟩; have n_ := zA_ (zb (zai zK142 (zal ho0) hb)) (zA_ (zb (zad (by (with_reducible repeat (first | apply zz | apply zaa | apply zac)); exact (zar (zap (p := ⟨gb315, 1, none⟩) (zap (p := ⟨gb315, 0, none⟩) (zaw HO305.out BK315.out (by decide)) (fun _ hk => hk.2) (.slice Ao31 t309.length co31)) (fun _ hk => hk.2) (.int .i64 t312)) (fun _ h_ => h_.1))) hb)) (zA_ (zb (zp (by (with_reducible repeat (first | apply zl | apply zm | apply zn)); exact (zx (zv (p := ⟨gb315, 1, none⟩) (zv (p := ⟨gb315, 0, none⟩) (zab HO308.out BK315.out (by decide)) (fun _ hk => hk.2) (.slice Ao31 t309.length co31)) (fun _ hk => hk.2) (.int .i64 t312)) (fun _ h_ => h_.1))) hb)) (zA_ (zb (zp (by (with_reducible repeat (first | apply zl | apply zm | apply zn)); exact (zx (zv (p := ⟨gb315, 1, none⟩) (zv (p := ⟨gb315, 0, none⟩) (zab HO311.out BK315.out (by decide)) (fun _ hk => hk.2) (.slice Ao31 t309.length co31)) (fun _ hk => hk.2) (.int .i64 t312)) (fun _ h_ => h_.1))) hb)) (zA_ (zb (zag (zan ho0 (zaq zK142)) (zo zG69))) (zA_ (zb (zu (g := gb315) (o := .cells #[.slice Ao31 t309.length co31, .int .i64 t312] 50 (0, 0)) (by (with_reducible repeat (first | refine zi ?_ _ | refine zk ?_ | refine zj ?_ _)); refine zy (cs := #[.slice Ao31 t309.length co31, .int .i64 0]) ?_ 1 _ rfl; (with_reducible repeat (first | refine zi ?_ _ | refine zk ?_ | refine zj ?_ _)); refine zy (cs := #[.slice none 0 0, .int .i64 0]) ?_ 0 _ rfl; (with_reducible repeat (first | refine zi ?_ _ | refine zk ?_ | refine zj ?_ _)); exact BK315.out) hb)) (zb (zq zG69 hb))))))); clear HO302 HO305 HO308 HO311 BK315 HB; obtain ⟨HO302, HO305, HO308, HO311, HO318, BK315, HB⟩ := n_; (try clear hb); (try clear hk); (try clear ho0)) | ((with_reducible refine gate_callee (f := 25) rfl ?_); refine goesL_ (some 50) rfl rfl Try.func25 zG96 rfl #[.slice A1 l1.length c1] rfl zG65 ?_; (with_reducible refine (laws_toWorkerS.calls k _ _ l1 t319 _ ?side1 ?side2 A17.out).mono ?_); (case side1 => exact zH49); (case side2 => exact HC1.out); rintro e w34 ⟨v320, rfl, ho0, hb⟩; refine ⟨_, rfl, ?_⟩; have n_ := zA_ (zb (zp zK189 hb)) (zA_ (zb (zbh zK184 (Kd.S_base ho0) hb)) (zA_ (zb (zp zK190 hb)) (zA_ (zb (zp zK191 hb)) (zA_ (zb (zp zK192 hb)) (zA_ (zb (zbf (Kd.S_new' ho0 (Kd.S_lt zK184)) (zo zG69))) (zA_ (zb (zu (g := gb315) (o := .cells #[.slice Ao31 t309.length co31, .int .i64 t312] 50 (0, 0)) zG77 hb)) (zb (zq zG69 hb)))))))); clear HO302 HO305 HO308 HO311 HO318 BK315 HB; obtain ⟨HO302, HO305, HO308, HO311, HO318, HO321, BK315, HB⟩ := n_; (try clear hb); (try clear hk); (try clear ho0)) | ((with_reducible refine gate_callee (f := 10) rfl ?_); refine goesL_ (some 52) rfl rfl Try.func10 zG96 rfl #[.slice A2 l2.length c2] rfl zG65 ?_; (with_reducible refine (laws_toIntS.calls k _ _ l2 t322 _ ?side1 ?side2 A18.out).mono ?_); (case side1 => exact zH48); (case side2 => exact HC2.out); rintro e w35 ⟨v323, rfl, ho0, hb⟩; refine ⟨_, rfl, ?_⟩; have n_ := zA_ (zb (zp zK189 hb)) (zA_ (zb (zad zK184 hb)) (zA_ (zb (zai zK190 (zal ho0) hb)) (zA_ (zb (zai zK191 (zal ho0) hb)) (zA_ (zb (zp zK192 hb)) (zA_ (zb (zad zK185 hb)) (zA_ (zb (zag (zan (zan ho0 (zaq zK190)) (zaq zK191)) (zo zG69))) (zA_ (zb (zu (g := gb315) (o := .cells #[.slice Ao31 t309.length co31, .int .i64 t312] 50 (0, 0)) zG77 hb)) (zb (zq zG69 hb))))))))); clear HO302 HO305 HO308 HO311 HO318 HO321 BK315 HB; obtain ⟨HO302, HO305, HO308, HO311, HO318, HO321, HO324, BK315, HB⟩ := n_; (try clear hb); (try clear hk); (try clear ho0); obtain ⟨Ao36, co36, eo36⟩ := zah HO318.out; subst eo36; obtain ⟨Ao37, co37, eo37⟩ := zbg HO321.out; subst eo37; obtain ⟨Ao38, co38, eo38⟩ := zah HO324.out; subst eo38) | ((with_reducible refine gate_callee (f := 26) rfl ?_); refine goesL_ (some 57) rfl rfl Try.func26 zG96 rfl #[.slice Ao36 t316.length co36, .slice Ao37 t319.length co37, .slice Ao38 t322.length co38] rfl zG65 ?_; (with_reducible refine (impl_RosterOf.calls k _ _ t316 _ _ t319 _ _ t322 t325 t328 t329 t330 _ ?side1 ?side2 ?side3 ?side4 ?side5 ?side6 A19.out).mono ?_); (case side1 => repeat (first | exact (Kd.R_reads' HO318.out).2.2 | (with_reducible refine zr ?_ _) | (with_reducible refine zs ?_ _) | (with_reducible refine zt ?_))); (case side2 => exact (Kd.R_reads' HO318.out).2.1); (case side3 => repeat (first | exact (zak HO321.out).2.2 | (with_reducible refine zr ?_ _) | (with_reducible refine zs ?_ _) | (with_reducible refine zt ?_))); (case side4 => exact (zak HO321.out).2.1); (case side5 => repeat (first | exact (Kd.R_reads' HO324.out).2.2 | (with_reducible refine zr ?_ _) | (with_reducible refine zs ?_ _) | (with_reducible refine zt ?_))); (case side6 => exact (Kd.R_reads' HO324.out).2.1); rintro e w39 ⟨v326, rfl, ho0, hb⟩; refine ⟨_, rfl, ?_⟩; have n_ := zA_ (zb (zp zK189 hb)) (zA_ (zb (zad zK184 hb)) (zA_ (zb (zai zK190 (zal ho0) hb)) (zA_ (zb (zai zK191 (zal ho0) hb)) (zA_ (zb (zp zK192 hb)) (zA_ (zb (zad zK185 hb)) (zA_ (zb (zai zK193 (zal ho0) hb)) (zA_ (zb (zag (zan (zan (zan ho0 (zaq zK190)) (zaq zK191)) (zaq zK193)) (zo zG69))) (zA_ (zb (zu (g := gb315) (o := .cells #[.slice Ao31 t309.length co31, .int .i64 t312] 50 (0, 0)) zG77 hb)) (zb (zq zG69 hb)))))))))); clear HO302 HO305 HO308 HO311 HO318 HO321 HO324 BK315 HB; obtain ⟨HO302, HO305, HO308, HO311, HO318, HO321, HO324, HO327, BK315, HB⟩ := n_; (try clear hb); (try clear hk); (try clear ho0)) | ((with_reducible refine gate_dst (N := 14) rfl ?_); refine box_event ?hg (N := 14) ?hd (cs := #[.slice none 0 0, .int .i64 0]) (t := 50) ?hr ?_; (case hd => rfl); (case hg => rfl); (case hr => exact zH100); intro gb331 hg w40 hbox hb; have n_ := zA_ (zb (zp zK189 hb)) (zA_ (zb (zad zK184 hb)) (zA_ (zb (zp zK190 hb)) (zA_ (zb (zp zK191 hb)) (zA_ (zb (zp zK192 hb)) (zA_ (zb (zad zK185 hb)) (zA_ (zb (zp zK193 hb)) (zA_ (zb (zp (by (with_reducible repeat (first | apply zl | apply zm | apply zn)); exact HO327.out) hb)) (zA_ (zb (zu (g := gb315) (o := .cells #[.slice Ao31 t309.length co31, .int .i64 t312] 50 (0, 0)) zG77 hb)) (zA_ (zb (zq zG69 hb)) (zA_ (zb (hbox)) (zA_ (zb ((by rw [hg]; exact (zo zG69) : w.heap.size ≤ gb331))) (zA_ (zb ((by rw [hg]; exact (zo zG69) : w.heap.size ≤ gb331))) (zA_ (zb ((by rw [hg]; exact Nat.ne_of_lt (zae (g := gb315) (o := .cells #[.slice Ao31 t309.length co31, .int .i64 t312] 50 (0, 0)) zG77) : gb315 ≠ gb331))) (zb ((by rw [hg]; exact Nat.ne_of_gt (zae (g := gb315) (o := .cells #[.slice Ao31 t309.length co31, .int .i64 t312] 50 (0, 0)) zG77) : gb331 ≠ gb315)))))))))))))))); clear HO302 HO305 HO308 HO311 HO318 HO321 HO324 HO327 BK315 HB; obtain ⟨HO302, HO305, HO308, HO311, HO318, HO321, HO324, HO327, BK315, HB, BK331, GW331, GE331, NB315_331, NB331_315⟩ := n_; clear hb hbox hg; obtain ⟨Ao41, co41, eo41⟩ := zah HO327.out; subst eo41; have hnb42 := NB331_315.out; have hnc42 := NB315_331.out; have hcz43_0 : w40.cell? ⟨gb331, 0, none⟩ = some (.slice none 0 0) := (zg BK331.out 0).trans rfl; have hcz43_1 : w40.cell? ⟨gb331, 1, none⟩ = some (.int .i64 0) := (zg BK331.out 1).trans rfl; have hfz43_0 := zf BK331.out 0; have hfz43_1 := zf BK331.out 1))
 (try simp only [Act.put, List.setIfInBounds_toArray, List.set_cons_zero, List.set_cons_succ])
 go_cut [74] (fun v74 wc => ∃ (kq : Nat) (x74_19 : Bool), v74 = .bool x74_19 ∧ Aside0 (laws_FnExactRosterOf.j0 kq l0 l1 l2 t313 t314 t316 t319 t322 t329 t330 x74_19 t309 t312 t325 t328 = some r) ∧ Aside0 (kq ≤ k) ∧ Aside0 (Kd.R k98 98 wc w.heap.size (fun _ => True) (.slice Ao36 t316.length co36) t316) ∧ Aside0 (Kd.S k100 100 wc w.heap.size (fun _ => True) (.slice Ao37 t319.length co37) t319) ∧ Aside0 (Kd.R (Kd.int .i64) 3 wc w.heap.size (fun k_ => some k_ ≠ ((.slice Ao31 t309.length co31) : Value).ownBlock ∧ some k_ ≠ ((.slice Ao41 t325.length co41) : Value).ownBlock) (.slice Ao38 t322.length co38) t322) ∧ Aside0 (Kd.R (Kd.int .i64) 3 wc w.heap.size (fun k_ => some k_ ≠ ((.slice Ao38 t322.length co38) : Value).ownBlock ∧ some k_ ≠ ((.slice Ao41 t325.length co41) : Value).ownBlock) (.slice Ao31 t309.length co31) t309) ∧ Aside0 (Kd.R (Kd.int .i64) 3 wc w.heap.size (fun k_ => some k_ ≠ ((.slice Ao38 t322.length co38) : Value).ownBlock ∧ some k_ ≠ ((.slice Ao31 t309.length co31) : Value).ownBlock) (.slice Ao41 t325.length co41) t325) ∧ Aside0 (wc.heap[gb315]? = some (.cells #[(.slice Ao31 t309.length co31), .int .i64 t312] 50 (0, 0))) ∧ Aside0 (wc.heap[gb331]? = some (.cells #[(.slice Ao41 t325.length co41), .int .i64 t328] 50 (0, 0))) ∧ Aside0 (Below w.heap.size w wc))
 case first =>
  have H := HC20.out
  clear HC20
  replace H := Option.bind_eq_some_iff.mp H
  obtain ⟨t332, A440, H⟩ := H
  replace H : (if t332 = true then (if t329 = t313 then (laws_FnExactRosterOf.j0 k l0 l1 l2 t313 t314 t316 t319 t322 t329 t330 (t330 != t314) t309 t312 t325 t328) else (laws_FnExactRosterOf.j0 k l0 l1 l2 t313 t314 t316 t319 t322 t329 t330 true t309 t312 t325 t328)) else (laws_FnExactRosterOf.j0 k l0 l1 l2 t313 t314 t316 t319 t322 t329 t330 true t309 t312 t325 t328)) = some r := H
  have A44 := zb A440
  clear A440
  by_cases c45 : t332 = true
  rotate_left
  ·replace c45 := Bool.eq_false_iff.mpr c45
   subst c45
   have H1 : (laws_FnExactRosterOf.j0 k l0 l1 l2 t313 t314 t316 t319 t322 t329 t330 true t309 t312 t325 t328) = some r := by rw [if_neg (show ¬ (false = true) by decide)] at H; exact H
   clear H
   have H := H1
   clear H1
   have H' := zb H
   clear H
   have hnb55 := NB331_315.out
   have hnc55 := NB315_331.out
   have hcz56_0 : w40.cell? ⟨gb331, 0, none⟩ = some (.slice none 0 0) := (zg BK331.out 0).trans rfl
   have hcz56_1 : w40.cell? ⟨gb331, 1, none⟩ = some (.int .i64 0) := (zg BK331.out 1).trans rfl
   have hfz56_0 := zf BK331.out 0
   have hfz56_1 := zf BK331.out 1
   have hcz57_0 : w40.cell? ⟨gb315, 0, none⟩ = some (.slice Ao31 t309.length co31) := (zg BK315.out 0).trans rfl
   have hcz57_1 : w40.cell? ⟨gb315, 1, none⟩ = some (.int .i64 t312) := (zg BK315.out 1).trans rfl
   have hfz57_0 := zf BK315.out 0
   have hfz57_1 := zf BK315.out 1
   go_wp2_with (first | ((with_reducible refine gate_callee (f := 27) rfl ?_); refine goesL_ (some 63) rfl rfl Try.func27 zG96 rfl #[.agg #[.slice Ao41 t325.length co41, .int .i64 t328], .agg #[.slice Ao31 t309.length co31, .int .i64 t312]] rfl zG65 ?_; (with_reducible refine (laws_eqRoster.calls k _ _ t325 t328 _ _ t309 t312 false _ ?side1 ?side2 ?side3 ?side4 A44.out).mono ?_); (case side1 => exact zH5); (case side2 => exact (Kd.R_reads' HO327.out).2.1); (case side3 => exact zH6); (case side4 => exact (Kd.R_reads' HO311.out).2.1); rintro e w58 ⟨rfl, hb⟩; refine ⟨_, rfl, ?_⟩; have n_ := zA_ (zb (zp zK143 hb)) (zA_ (zb (zad zK137 hb)) (zA_ (zb (zp zK144 hb)) (zA_ (zb (zp zK145 hb)) (zA_ (zb (zp zK146 hb)) (zA_ (zb (zad zK138 hb)) (zA_ (zb (zp zK147 hb)) (zA_ (zb (zp zK148 hb)) (zA_ (zb (zu (g := gb315) (o := .cells #[.slice Ao31 t309.length co31, .int .i64 t312] 50 (0, 0)) zK113 hb)) (zA_ (zb (zu (g := gb331) (o := .cells #[.slice Ao41 t325.length co41, .int .i64 t328] 50 (0, 0)) zK110 hb)) (zb (zq zG64 hb))))))))))); clear HO302 HO305 HO308 HO311 HO318 HO321 HO324 HO327 BK315 BK331 HB; obtain ⟨HO302, HO305, HO308, HO311, HO318, HO321, HO324, HO327, BK315, BK331, HB⟩ := n_; (try clear hb); (try clear hk)))
   go_meet
   case rel => exact ⟨_, (true), zG95, H', ⟨zH101⟩, ⟨zH77⟩, ⟨zH73⟩, ⟨zH70⟩, ⟨zH69⟩, ⟨zH71⟩, ⟨zH87⟩, ⟨zH88⟩, ⟨zH28⟩⟩
  subst c45
  have H1 : (if t329 = t313 then (laws_FnExactRosterOf.j0 k l0 l1 l2 t313 t314 t316 t319 t322 t329 t330 (t330 != t314) t309 t312 t325 t328) else (laws_FnExactRosterOf.j0 k l0 l1 l2 t313 t314 t316 t319 t322 t329 t330 true t309 t312 t325 t328)) = some r := by rw [if_pos rfl] at H; exact H
  clear H
  have H := H1
  clear H1
  by_cases c46 : t329 = t313
  rotate_left
  ·rw [if_neg c46] at H
   have c46b0 : (t329 == t313) = false := beq_eq_false_iff_ne.mpr c46
   have c46b1 : (t329 != t313) = true := bne_iff_ne.mpr c46
   (first | rw [c46b0] | (simp only [i64_w, i32_w]; rw [c46b0]) | skip)
   have H' := zb H
   clear H
   have hnb51 := NB331_315.out
   have hnc51 := NB315_331.out
   have hcz52_0 : w40.cell? ⟨gb331, 0, none⟩ = some (.slice none 0 0) := (zg BK331.out 0).trans rfl
   have hcz52_1 : w40.cell? ⟨gb331, 1, none⟩ = some (.int .i64 0) := (zg BK331.out 1).trans rfl
   have hfz52_0 := zf BK331.out 0
   have hfz52_1 := zf BK331.out 1
   have hcz53_0 : w40.cell? ⟨gb315, 0, none⟩ = some (.slice Ao31 t309.length co31) := (zg BK315.out 0).trans rfl
   have hcz53_1 : w40.cell? ⟨gb315, 1, none⟩ = some (.int .i64 t312) := (zg BK315.out 1).trans rfl
   have hfz53_0 := zf BK315.out 0
   have hfz53_1 := zf BK315.out 1
   go_wp2_with (first | ((with_reducible refine gate_callee (f := 27) rfl ?_); refine goesL_ (some 63) rfl rfl Try.func27 zG96 rfl #[.agg #[.slice Ao41 t325.length co41, .int .i64 t328], .agg #[.slice Ao31 t309.length co31, .int .i64 t312]] rfl zG65 ?_; (with_reducible refine (laws_eqRoster.calls k _ _ t325 t328 _ _ t309 t312 true _ ?side1 ?side2 ?side3 ?side4 A44.out).mono ?_); (case side1 => exact zH5); (case side2 => exact (Kd.R_reads' HO327.out).2.1); (case side3 => exact zH6); (case side4 => exact (Kd.R_reads' HO311.out).2.1); rintro e w54 ⟨rfl, hb⟩; refine ⟨_, rfl, ?_⟩; have n_ := zA_ (zb (zp zK143 hb)) (zA_ (zb (zad zK137 hb)) (zA_ (zb (zp zK144 hb)) (zA_ (zb (zp zK145 hb)) (zA_ (zb (zp zK146 hb)) (zA_ (zb (zad zK138 hb)) (zA_ (zb (zp zK147 hb)) (zA_ (zb (zp zK148 hb)) (zA_ (zb (zu (g := gb315) (o := .cells #[.slice Ao31 t309.length co31, .int .i64 t312] 50 (0, 0)) zK113 hb)) (zA_ (zb (zu (g := gb331) (o := .cells #[.slice Ao41 t325.length co41, .int .i64 t328] 50 (0, 0)) zK110 hb)) (zb (zq zG64 hb))))))))))); clear HO302 HO305 HO308 HO311 HO318 HO321 HO324 HO327 BK315 BK331 HB; obtain ⟨HO302, HO305, HO308, HO311, HO318, HO321, HO324, HO327, BK315, BK331, HB⟩ := n_; (try clear hb); (try clear hk)))
   go_meet
   case rel => exact ⟨_, (true), zG95, H', ⟨zH101⟩, ⟨zH77⟩, ⟨zH73⟩, ⟨zH70⟩, ⟨zH69⟩, ⟨zH71⟩, ⟨zH87⟩, ⟨zH88⟩, ⟨zH28⟩⟩
  rw [if_pos c46] at H
  have c46b0 : (t329 == t313) = true := beq_iff_eq.mpr c46
  have c46b1 : (t329 != t313) = false := bne_eq_false_iff_eq.mpr c46
  clear c46
  (first | rw [c46b0] | (simp only [i64_w, i32_w]; rw [c46b0]) | skip)
  have H' := zb H
  clear H
  have hnb47 := NB331_315.out
  have hnc47 := NB315_331.out
  have hcz48_0 : w40.cell? ⟨gb331, 0, none⟩ = some (.slice none 0 0) := (zg BK331.out 0).trans rfl
  have hcz48_1 : w40.cell? ⟨gb331, 1, none⟩ = some (.int .i64 0) := (zg BK331.out 1).trans rfl
  have hfz48_0 := zf BK331.out 0
  have hfz48_1 := zf BK331.out 1
  have hcz49_0 : w40.cell? ⟨gb315, 0, none⟩ = some (.slice Ao31 t309.length co31) := (zg BK315.out 0).trans rfl
  have hcz49_1 : w40.cell? ⟨gb315, 1, none⟩ = some (.int .i64 t312) := (zg BK315.out 1).trans rfl
  have hfz49_0 := zf BK315.out 0
  have hfz49_1 := zf BK315.out 1
  go_wp2_with (first | ((with_reducible refine gate_callee (f := 27) rfl ?_); refine goesL_ (some 63) rfl rfl Try.func27 zG96 rfl #[.agg #[.slice Ao41 t325.length co41, .int .i64 t328], .agg #[.slice Ao31 t309.length co31, .int .i64 t312]] rfl zG65 ?_; (with_reducible refine (laws_eqRoster.calls k _ _ t325 t328 _ _ t309 t312 true _ ?side1 ?side2 ?side3 ?side4 A44.out).mono ?_); (case side1 => exact zH5); (case side2 => exact (Kd.R_reads' HO327.out).2.1); (case side3 => exact zH6); (case side4 => exact (Kd.R_reads' HO311.out).2.1); rintro e w50 ⟨rfl, hb⟩; refine ⟨_, rfl, ?_⟩; have n_ := zA_ (zb (zp zK143 hb)) (zA_ (zb (zad zK137 hb)) (zA_ (zb (zp zK144 hb)) (zA_ (zb (zp zK145 hb)) (zA_ (zb (zp zK146 hb)) (zA_ (zb (zad zK138 hb)) (zA_ (zb (zp zK147 hb)) (zA_ (zb (zp zK148 hb)) (zA_ (zb (zu (g := gb315) (o := .cells #[.slice Ao31 t309.length co31, .int .i64 t312] 50 (0, 0)) zK113 hb)) (zA_ (zb (zu (g := gb331) (o := .cells #[.slice Ao41 t325.length co41, .int .i64 t328] 50 (0, 0)) zK110 hb)) (zb (zq zG64 hb))))))))))); clear HO302 HO305 HO308 HO311 HO318 HO321 HO324 HO327 BK315 BK331 HB; obtain ⟨HO302, HO305, HO308, HO311, HO318, HO321, HO324, HO327, BK315, BK331, HB⟩ := n_; (try clear hb); (try clear hk)))
  go_meet
  case rel => exact ⟨_, ((t330 != t314)), zG95, H', ⟨zH101⟩, ⟨zH77⟩, ⟨zH73⟩, ⟨zH70⟩, ⟨zH69⟩, ⟨zH71⟩, ⟨zH87⟩, ⟨zH88⟩, ⟨zH28⟩⟩
 case rest =>
  clear HC20
  try clear c1
  try clear c2
  try clear p2
  try clear c4
  try clear c4b0
  try clear c4b1
  try clear c5
  try clear c6
  try clear c6b0
  try clear c9
  try clear c9b0
  try clear c10
  try clear c21
  try clear c22
  try clear c23
  try clear c24
  try clear c25
  try clear c26
  try clear c27
  try clear c42
  try clear c45
  try clear c46
  try clear c46b0
  try clear c46b1
  try clear c47
  try clear c51
  try clear c55
  try clear hcz32_0
  try clear hcz32_1
  try clear hcz43_0
  try clear hcz43_1
  try clear hcz48_0
  try clear hcz48_1
  try clear hcz49_0
  try clear hcz49_1
  try clear hcz52_0
  try clear hcz52_1
  try clear hcz53_0
  try clear hcz53_1
  try clear hcz56_0
  try clear hcz56_1
  try clear hcz57_0
  try clear hcz57_1
  try clear hfz32_0
  try clear hfz32_1
  try clear hfz43_0
  try clear hfz43_1
  try clear hfz48_0
  try clear hfz48_1
  try clear hfz49_0
  try clear hfz49_1
  try clear hfz52_0
  try clear hfz52_1
  try clear hfz53_0
  try clear hfz53_1
  try clear hfz56_0
  try clear hfz56_1
  try clear hfz57_0
  try clear hfz57_1
  obtain ⟨kq, x74_19, rfl, HA, HJ19, HO_11, HO_12, HO_13, HO_316000, HO_332000, BK315, BK331, HB⟩ := hcut
  cases kq with
  | zero => exact absurd HA.out (by simp [laws_FnExactRosterOf.j0])
  | succ kj19 =>
   have H := HA.out
   clear HA
   simp only [laws_FnExactRosterOf.j0] at H
   by_cases c59 : x74_19 = true
   ·subst c59
    have H1 : (some false) = some r := by rw [if_pos rfl] at H; exact H
    clear H
    have H := H1
    clear H1
    obtain rfl := Option.some.inj H
    go_wp2
    go_ret
    exact zH16
   replace c59 := Bool.eq_false_iff.mpr c59
   subst c59
   have H1 : ((laws_toShiftS.f kj19 l0).bind fun t333 => ((laws_eqShiftS.f kj19 t316 t333).bind fun t336 => (if t336 = true then ((laws_toWorkerS.f kj19 l1).bind fun t337 => ((laws_eqWorkerS.f kj19 t319 t337).bind fun t340 => (if t340 = true then ((laws_toIntS.f kj19 l2).bind fun t341 => ((laws_eqIntS.f kj19 t322 t341).bind fun t344 => (if t344 = true then ((laws_markShiftS.f kj19 t316 1).bind fun bt345 => ((laws_markWorkerS.f kj19 t319 bt345.1).bind fun t347 => ((laws_markIntS.f kj19 t322 t347).bind fun bt348 => (if bt348.1 < 0 then (laws_FnExactRosterOf.j1 kj19 l0 l1 l2 t313 t314 true t309 t312 t325 t328) else ((laws_eqRoster.f kj19 t325 t328 t309 t312).bind fun t350 => (if t350 = true then (if t329 = t313 then (laws_FnExactRosterOf.j1 kj19 l0 l1 l2 t313 t314 (t330 != t314) t309 t312 t325 t328) else (laws_FnExactRosterOf.j1 kj19 l0 l1 l2 t313 t314 true t309 t312 t325 t328)) else (laws_FnExactRosterOf.j1 kj19 l0 l1 l2 t313 t314 true t309 t312 t325 t328))))))) else (some false)))) else (some false)))) else (some false)))) = some r := by rw [if_neg (show ¬ (false = true) by decide)] at H; exact H
   clear H
   have H := H1
   clear H1
   replace H := Option.bind_eq_some_iff.mp H
   obtain ⟨t333, A600, H⟩ := H
   replace H : ((laws_eqShiftS.f kj19 t316 t333).bind fun t336 => (if t336 = true then ((laws_toWorkerS.f kj19 l1).bind fun t337 => ((laws_eqWorkerS.f kj19 t319 t337).bind fun t340 => (if t340 = true then ((laws_toIntS.f kj19 l2).bind fun t341 => ((laws_eqIntS.f kj19 t322 t341).bind fun t344 => (if t344 = true then ((laws_markShiftS.f kj19 t316 1).bind fun bt345 => ((laws_markWorkerS.f kj19 t319 bt345.1).bind fun t347 => ((laws_markIntS.f kj19 t322 t347).bind fun bt348 => (if bt348.1 < 0 then (laws_FnExactRosterOf.j1 kj19 l0 l1 l2 t313 t314 true t309 t312 t325 t328) else ((laws_eqRoster.f kj19 t325 t328 t309 t312).bind fun t350 => (if t350 = true then (if t329 = t313 then (laws_FnExactRosterOf.j1 kj19 l0 l1 l2 t313 t314 (t330 != t314) t309 t312 t325 t328) else (laws_FnExactRosterOf.j1 kj19 l0 l1 l2 t313 t314 true t309 t312 t325 t328)) else (laws_FnExactRosterOf.j1 kj19 l0 l1 l2 t313 t314 true t309 t312 t325 t328))))))) else (some false)))) else (some false)))) else (some false))) = some r := H
   have A60 := zb A600
   clear A600
   replace H := Option.bind_eq_some_iff.mp H
   obtain ⟨t336, A610, H⟩ := H
   replace H : (if t336 = true then ((laws_toWorkerS.f kj19 l1).bind fun t337 => ((laws_eqWorkerS.f kj19 t319 t337).bind fun t340 => (if t340 = true then ((laws_toIntS.f kj19 l2).bind fun t341 => ((laws_eqIntS.f kj19 t322 t341).bind fun t344 => (if t344 = true then ((laws_markShiftS.f kj19 t316 1).bind fun bt345 => ((laws_markWorkerS.f kj19 t319 bt345.1).bind fun t347 => ((laws_markIntS.f kj19 t322 t347).bind fun bt348 => (if bt348.1 < 0 then (laws_FnExactRosterOf.j1 kj19 l0 l1 l2 t313 t314 true t309 t312 t325 t328) else ((laws_eqRoster.f kj19 t325 t328 t309 t312).bind fun t350 => (if t350 = true then (if t329 = t313 then (laws_FnExactRosterOf.j1 kj19 l0 l1 l2 t313 t314 (t330 != t314) t309 t312 t325 t328) else (laws_FnExactRosterOf.j1 kj19 l0 l1 l2 t313 t314 true t309 t312 t325 t328)) else (laws_FnExactRosterOf.j1 kj19 l0 l1 l2 t313 t314 true t309 t312 t325 t328))))))) else (some false)))) else (some false)))) else (some false)) = some r := H
   have A61 := zb A610
   clear A610
   by_cases c62 : t336 = true
   rotate_left
   ·replace c62 := Bool.eq_false_iff.mpr c62
    subst c62
    have H1 : (some false) = some r := by rw [if_neg (show ¬ (false = true) by decide)] at H; exact H
    clear H
    have H := H1
    clear H1
    obtain rfl := Option.some.inj H
    go_wp2_with (first | ((with_reducible refine gate_callee (f := 24) rfl ?_); refine goesL_ (some 77) rfl rfl Try.func24 zG96 rfl #[.slice A0 l0.length c0] rfl zG65 ?_; (with_reducible refine (laws_toShiftS.calls kj19 _ _ l0 t333 _ ?side1 ?side2 A60.out).mono ?_); (case side1 => exact zH50); (case side2 => exact HC0.out); rintro e w188 ⟨v334, rfl, ho0, hb⟩; refine ⟨_, rfl, ?_⟩; have n_ := zA_ (zb (zai zG83 (zal ho0) hb)) (zA_ (zb (zad zG82 hb)) (zA_ (zb (zp zG84 hb)) (zA_ (zb (zp zG80 hb)) (zA_ (zb (zp zG81 hb)) (zA_ (zb (zag (zan ho0 (zaq zG83)) (zo zG64))) (zA_ (zb (zu (g := gb315) (o := .cells #[.slice Ao31 t309.length co31, .int .i64 t312] 50 (0, 0)) zG77 hb)) (zA_ (zb (zu (g := gb331) (o := .cells #[.slice Ao41 t325.length co41, .int .i64 t328] 50 (0, 0)) zG78 hb)) (zb (zq zG64 hb))))))))); clear HO_11 HO_12 HO_13 HO_316000 HO_332000 BK315 BK331 HB; obtain ⟨HO_11, HO_12, HO_13, HO_316000, HO_332000, HO335, BK315, BK331, HB⟩ := n_; (try clear hb); (try clear ho0); obtain ⟨Ao189, co189, eo189⟩ := zah HO335.out; subst eo189) | ((with_reducible refine gate_callee (f := 28) rfl ?_); refine goesL_ (some 78) rfl rfl Try.func28 zG96 rfl #[.slice Ao36 t316.length co36, .slice Ao189 t333.length co189] rfl zG65 ?_; (with_reducible refine (laws_eqShiftS.calls kj19 _ _ t316 _ _ t333 false _ ?side1 ?side2 ?side3 ?side4 A61.out).mono ?_); (case side1 => exact zH37); (case side2 => exact (Kd.R_reads' HO_11.out).2.1); (case side3 => exact zH36); (case side4 => exact (Kd.R_reads' HO335.out).2.1); rintro e w190 ⟨rfl, hb⟩; refine ⟨_, rfl, ?_⟩; have n_ := zA_ (zb (zp zG83 hb)) (zA_ (zb (zad zG82 hb)) (zA_ (zb (zp zG84 hb)) (zA_ (zb (zp zG80 hb)) (zA_ (zb (zp zG81 hb)) (zA_ (zb (zp zG85 hb)) (zA_ (zb (zu (g := gb315) (o := .cells #[.slice Ao31 t309.length co31, .int .i64 t312] 50 (0, 0)) zG77 hb)) (zA_ (zb (zu (g := gb331) (o := .cells #[.slice Ao41 t325.length co41, .int .i64 t328] 50 (0, 0)) zG78 hb)) (zb (zq zG64 hb))))))))); clear HO_11 HO_12 HO_13 HO_316000 HO_332000 HO335 BK315 BK331 HB; obtain ⟨HO_11, HO_12, HO_13, HO_316000, HO_332000, HO335, BK315, BK331, HB⟩ := n_; (try clear hb)))
    go_ret
    exact zH16

   subst c62
   have H1 : ((laws_toWorkerS.f kj19 l1).bind fun t337 => ((laws_eqWorkerS.f kj19 t319 t337).bind fun t340 => (if t340 = true then ((laws_toIntS.f kj19 l2).bind fun t341 => ((laws_eqIntS.f kj19 t322 t341).bind fun t344 => (if t344 = true then ((laws_markShiftS.f kj19 t316 1).bind fun bt345 => ((laws_markWorkerS.f kj19 t319 bt345.1).bind fun t347 => ((laws_markIntS.f kj19 t322 t347).bind fun bt348 => (if bt348.1 < 0 then (laws_FnExactRosterOf.j1 kj19 l0 l1 l2 t313 t314 true t309 t312 t325 t328) else ((laws_eqRoster.f kj19 t325 t328 t309 t312).bind fun t350 => (if t350 = true then (if t329 = t313 then (laws_FnExactRosterOf.j1 kj19 l0 l1 l2 t313 t314 (t330 != t314) t309 t312 t325 t328) else (laws_FnExactRosterOf.j1 kj19 l0 l1 l2 t313 t314 true t309 t312 t325 t328)) else (laws_FnExactRosterOf.j1 kj19 l0 l1 l2 t313 t314 true t309 t312 t325 t328))))))) else (some false)))) else (some false)))) = some r := by rw [if_pos rfl] at H; exact H
   clear H
   have H := H1
   clear H1
   replace H := Option.bind_eq_some_iff.mp H
   obtain ⟨t337, A630, H⟩ := H
   replace H : ((laws_eqWorkerS.f kj19 t319 t337).bind fun t340 => (if t340 = true then ((laws_toIntS.f kj19 l2).bind fun t341 => ((laws_eqIntS.f kj19 t322 t341).bind fun t344 => (if t344 = true then ((laws_markShiftS.f kj19 t316 1).bind fun bt345 => ((laws_markWorkerS.f kj19 t319 bt345.1).bind fun t347 => ((laws_markIntS.f kj19 t322 t347).bind fun bt348 => (if bt348.1 < 0 then (laws_FnExactRosterOf.j1 kj19 l0 l1 l2 t313 t314 true t309 t312 t325 t328) else ((laws_eqRoster.f kj19 t325 t328 t309 t312).bind fun t350 => (if t350 = true then (if t329 = t313 then (laws_FnExactRosterOf.j1 kj19 l0 l1 l2 t313 t314 (t330 != t314) t309 t312 t325 t328) else (laws_FnExactRosterOf.j1 kj19 l0 l1 l2 t313 t314 true t309 t312 t325 t328)) else (laws_FnExactRosterOf.j1 kj19 l0 l1 l2 t313 t314 true t309 t312 t325 t328))))))) else (some false)))) else (some false))) = some r := H
   have A63 := zb A630
   clear A630
   replace H := Option.bind_eq_some_iff.mp H
   obtain ⟨t340, A640, H⟩ := H
   replace H : (if t340 = true then ((laws_toIntS.f kj19 l2).bind fun t341 => ((laws_eqIntS.f kj19 t322 t341).bind fun t344 => (if t344 = true then ((laws_markShiftS.f kj19 t316 1).bind fun bt345 => ((laws_markWorkerS.f kj19 t319 bt345.1).bind fun t347 => ((laws_markIntS.f kj19 t322 t347).bind fun bt348 => (if bt348.1 < 0 then (laws_FnExactRosterOf.j1 kj19 l0 l1 l2 t313 t314 true t309 t312 t325 t328) else ((laws_eqRoster.f kj19 t325 t328 t309 t312).bind fun t350 => (if t350 = true then (if t329 = t313 then (laws_FnExactRosterOf.j1 kj19 l0 l1 l2 t313 t314 (t330 != t314) t309 t312 t325 t328) else (laws_FnExactRosterOf.j1 kj19 l0 l1 l2 t313 t314 true t309 t312 t325 t328)) else (laws_FnExactRosterOf.j1 kj19 l0 l1 l2 t313 t314 true t309 t312 t325 t328))))))) else (some false)))) else (some false)) = some r := H
   have A64 := zb A640
   clear A640
   by_cases c65 : t340 = true
   rotate_left
   ·replace c65 := Bool.eq_false_iff.mpr c65
    subst c65
    have H1 : (some false) = some r := by rw [if_neg (show ¬ (false = true) by decide)] at H; exact H
    clear H
    have H := H1
    clear H1
    obtain rfl := Option.some.inj H
    go_wp2_with (first | ((with_reducible refine gate_callee (f := 24) rfl ?_); refine goesL_ (some 77) rfl rfl Try.func24 zG96 rfl #[.slice A0 l0.length c0] rfl zG65 ?_; (with_reducible refine (laws_toShiftS.calls kj19 _ _ l0 t333 _ ?side1 ?side2 A60.out).mono ?_); (case side1 => exact zH50); (case side2 => exact HC0.out); rintro e w182 ⟨v334, rfl, ho0, hb⟩; refine ⟨_, rfl, ?_⟩; have n_ := zA_ (zb (zai zG83 (zal ho0) hb)) (zA_ (zb (zad zG82 hb)) (zA_ (zb (zp zG84 hb)) (zA_ (zb (zp zG80 hb)) (zA_ (zb (zp zG81 hb)) (zA_ (zb (zag (zan ho0 (zaq zG83)) (zo zG64))) (zA_ (zb (zu (g := gb315) (o := .cells #[.slice Ao31 t309.length co31, .int .i64 t312] 50 (0, 0)) zG77 hb)) (zA_ (zb (zu (g := gb331) (o := .cells #[.slice Ao41 t325.length co41, .int .i64 t328] 50 (0, 0)) zG78 hb)) (zb (zq zG64 hb))))))))); clear HO_11 HO_12 HO_13 HO_316000 HO_332000 BK315 BK331 HB; obtain ⟨HO_11, HO_12, HO_13, HO_316000, HO_332000, HO335, BK315, BK331, HB⟩ := n_; (try clear hb); (try clear ho0); obtain ⟨Ao183, co183, eo183⟩ := zah HO335.out; subst eo183) | ((with_reducible refine gate_callee (f := 28) rfl ?_); refine goesL_ (some 78) rfl rfl Try.func28 zG96 rfl #[.slice Ao36 t316.length co36, .slice Ao183 t333.length co183] rfl zG65 ?_; (with_reducible refine (laws_eqShiftS.calls kj19 _ _ t316 _ _ t333 true _ ?side1 ?side2 ?side3 ?side4 A61.out).mono ?_); (case side1 => exact zH37); (case side2 => exact (Kd.R_reads' HO_11.out).2.1); (case side3 => exact zH36); (case side4 => exact (Kd.R_reads' HO335.out).2.1); rintro e w184 ⟨rfl, hb⟩; refine ⟨_, rfl, ?_⟩; have n_ := zA_ (zb (zp zG83 hb)) (zA_ (zb (zad zG82 hb)) (zA_ (zb (zp zG84 hb)) (zA_ (zb (zp zG80 hb)) (zA_ (zb (zp zG81 hb)) (zA_ (zb (zp zG85 hb)) (zA_ (zb (zu (g := gb315) (o := .cells #[.slice Ao31 t309.length co31, .int .i64 t312] 50 (0, 0)) zG77 hb)) (zA_ (zb (zu (g := gb331) (o := .cells #[.slice Ao41 t325.length co41, .int .i64 t328] 50 (0, 0)) zG78 hb)) (zb (zq zG64 hb))))))))); clear HO_11 HO_12 HO_13 HO_316000 HO_332000 HO335 BK315 BK331 HB; obtain ⟨HO_11, HO_12, HO_13, HO_316000, HO_332000, HO335, BK315, BK331, HB⟩ := n_; (try clear hb)) | ((with_reducible refine gate_callee (f := 25) rfl ?_); refine goesL_ (some 82) rfl rfl Try.func25 zG96 rfl #[.slice A1 l1.length c1] rfl zG65 ?_; (with_reducible refine (laws_toWorkerS.calls kj19 _ _ l1 t337 _ ?side1 ?side2 A63.out).mono ?_); (case side1 => exact zH49); (case side2 => exact HC1.out); rintro e w185 ⟨v338, rfl, ho0, hb⟩; refine ⟨_, rfl, ?_⟩; have n_ := zA_ (zb (zp zG83 hb)) (zA_ (zb (zbh zG82 (Kd.S_base ho0) hb)) (zA_ (zb (zp zG84 hb)) (zA_ (zb (zp zG80 hb)) (zA_ (zb (zp zG81 hb)) (zA_ (zb (zp zG85 hb)) (zA_ (zb (zbf (Kd.S_new' ho0 (Kd.S_lt zG82)) (zo zG64))) (zA_ (zb (zu (g := gb315) (o := .cells #[.slice Ao31 t309.length co31, .int .i64 t312] 50 (0, 0)) zG77 hb)) (zA_ (zb (zu (g := gb331) (o := .cells #[.slice Ao41 t325.length co41, .int .i64 t328] 50 (0, 0)) zG78 hb)) (zb (zq zG64 hb)))))))))); clear HO_11 HO_12 HO_13 HO_316000 HO_332000 HO335 BK315 BK331 HB; obtain ⟨HO_11, HO_12, HO_13, HO_316000, HO_332000, HO335, HO339, BK315, BK331, HB⟩ := n_; (try clear hb); (try clear ho0); obtain ⟨Ao186, co186, eo186⟩ := zbg HO339.out; subst eo186) | ((with_reducible refine gate_callee (f := 29) rfl ?_); refine goesL_ (some 83) rfl rfl Try.func29 zG96 rfl #[.slice Ao37 t319.length co37, .slice Ao186 t337.length co186] rfl zG65 ?_; (with_reducible refine (laws_eqWorkerS.calls kj19 _ _ t319 _ _ t337 false _ ?side1 ?side2 ?side3 ?side4 A64.out).mono ?_); (case side1 => exact zH47); (case side2 => exact (zak HO_12.out).2.1); (case side3 => exact zH46); (case side4 => exact (zak HO339.out).2.1); rintro e w187 ⟨rfl, hb⟩; refine ⟨_, rfl, ?_⟩; have n_ := zA_ (zb (zp zG83 hb)) (zA_ (zb (zad zG82 hb)) (zA_ (zb (zp zG84 hb)) (zA_ (zb (zp zG80 hb)) (zA_ (zb (zp zG81 hb)) (zA_ (zb (zp zG85 hb)) (zA_ (zb (zad zK186 hb)) (zA_ (zb (zu (g := gb315) (o := .cells #[.slice Ao31 t309.length co31, .int .i64 t312] 50 (0, 0)) zG77 hb)) (zA_ (zb (zu (g := gb331) (o := .cells #[.slice Ao41 t325.length co41, .int .i64 t328] 50 (0, 0)) zG78 hb)) (zb (zq zG64 hb)))))))))); clear HO_11 HO_12 HO_13 HO_316000 HO_332000 HO335 HO339 BK315 BK331 HB; obtain ⟨HO_11, HO_12, HO_13, HO_316000, HO_332000, HO335, HO339, BK315, BK331, HB⟩ := n_; (try clear hb)))
    go_ret
    exact zH16
   subst c65
   have H1 : ((laws_toIntS.f kj19 l2).bind fun t341 => ((laws_eqIntS.f kj19 t322 t341).bind fun t344 => (if t344 = true then ((laws_markShiftS.f kj19 t316 1).bind fun bt345 => ((laws_markWorkerS.f kj19 t319 bt345.1).bind fun t347 => ((laws_markIntS.f kj19 t322 t347).bind fun bt348 => (if bt348.1 < 0 then (laws_FnExactRosterOf.j1 kj19 l0 l1 l2 t313 t314 true t309 t312 t325 t328) else ((laws_eqRoster.f kj19 t325 t328 t309 t312).bind fun t350 => (if t350 = true then (if t329 = t313 then (laws_FnExactRosterOf.j1 kj19 l0 l1 l2 t313 t314 (t330 != t314) t309 t312 t325 t328) else (laws_FnExactRosterOf.j1 kj19 l0 l1 l2 t313 t314 true t309 t312 t325 t328)) else (laws_FnExactRosterOf.j1 kj19 l0 l1 l2 t313 t314 true t309 t312 t325 t328))))))) else (some false)))) = some r := by rw [if_pos rfl] at H; exact H
   clear H
   have H := H1
   clear H1
   replace H := Option.bind_eq_some_iff.mp H
   obtain ⟨t341, A660, H⟩ := H
   replace H : ((laws_eqIntS.f kj19 t322 t341).bind fun t344 => (if t344 = true then ((laws_markShiftS.f kj19 t316 1).bind fun bt345 => ((laws_markWorkerS.f kj19 t319 bt345.1).bind fun t347 => ((laws_markIntS.f kj19 t322 t347).bind fun bt348 => (if bt348.1 < 0 then (laws_FnExactRosterOf.j1 kj19 l0 l1 l2 t313 t314 true t309 t312 t325 t328) else ((laws_eqRoster.f kj19 t325 t328 t309 t312).bind fun t350 => (if t350 = true then (if t329 = t313 then (laws_FnExactRosterOf.j1 kj19 l0 l1 l2 t313 t314 (t330 != t314) t309 t312 t325 t328) else (laws_FnExactRosterOf.j1 kj19 l0 l1 l2 t313 t314 true t309 t312 t325 t328)) else (laws_FnExactRosterOf.j1 kj19 l0 l1 l2 t313 t314 true t309 t312 t325 t328))))))) else (some false))) = some r := H
   have A66 := zb A660
   clear A660
   replace H := Option.bind_eq_some_iff.mp H
   obtain ⟨t344, A670, H⟩ := H
   replace H : (if t344 = true then ((laws_markShiftS.f kj19 t316 1).bind fun bt345 => ((laws_markWorkerS.f kj19 t319 bt345.1).bind fun t347 => ((laws_markIntS.f kj19 t322 t347).bind fun bt348 => (if bt348.1 < 0 then (laws_FnExactRosterOf.j1 kj19 l0 l1 l2 t313 t314 true t309 t312 t325 t328) else ((laws_eqRoster.f kj19 t325 t328 t309 t312).bind fun t350 => (if t350 = true then (if t329 = t313 then (laws_FnExactRosterOf.j1 kj19 l0 l1 l2 t313 t314 (t330 != t314) t309 t312 t325 t328) else (laws_FnExactRosterOf.j1 kj19 l0 l1 l2 t313 t314 true t309 t312 t325 t328)) else (laws_FnExactRosterOf.j1 kj19 l0 l1 l2 t313 t314 true t309 t312 t325 t328))))))) else (some false)) = some r := H
   have A67 := zb A670
   clear A670
   by_cases c68 : t344 = true
   rotate_left
   ·replace c68 := Bool.eq_false_iff.mpr c68
    subst c68
    have H1 : (some false) = some r := by rw [if_neg (show ¬ (false = true) by decide)] at H; exact H
    clear H
    have H := H1
    clear H1
    obtain rfl := Option.some.inj H
    go_wp2_with (first | ((with_reducible refine gate_callee (f := 24) rfl ?_); refine goesL_ (some 77) rfl rfl Try.func24 zG96 rfl #[.slice A0 l0.length c0] rfl zG65 ?_; (with_reducible refine (laws_toShiftS.calls kj19 _ _ l0 t333 _ ?side1 ?side2 A60.out).mono ?_); (case side1 => exact zH50); (case side2 => exact HC0.out); rintro e w174 ⟨v334, rfl, ho0, hb⟩; refine ⟨_, rfl, ?_⟩; have n_ := zA_ (zb (zai zG83 (zal ho0) hb)) (zA_ (zb (zad zG82 hb)) (zA_ (zb (zp zG84 hb)) (zA_ (zb (zp zG80 hb)) (zA_ (zb (zp zG81 hb)) (zA_ (zb (zag (zan ho0 (zaq zG83)) (zo zG64))) (zA_ (zb (zu (g := gb315) (o := .cells #[.slice Ao31 t309.length co31, .int .i64 t312] 50 (0, 0)) zG77 hb)) (zA_ (zb (zu (g := gb331) (o := .cells #[.slice Ao41 t325.length co41, .int .i64 t328] 50 (0, 0)) zG78 hb)) (zb (zq zG64 hb))))))))); clear HO_11 HO_12 HO_13 HO_316000 HO_332000 BK315 BK331 HB; obtain ⟨HO_11, HO_12, HO_13, HO_316000, HO_332000, HO335, BK315, BK331, HB⟩ := n_; (try clear hb); (try clear ho0); obtain ⟨Ao175, co175, eo175⟩ := zah HO335.out; subst eo175) | ((with_reducible refine gate_callee (f := 28) rfl ?_); refine goesL_ (some 78) rfl rfl Try.func28 zG96 rfl #[.slice Ao36 t316.length co36, .slice Ao175 t333.length co175] rfl zG65 ?_; (with_reducible refine (laws_eqShiftS.calls kj19 _ _ t316 _ _ t333 true _ ?side1 ?side2 ?side3 ?side4 A61.out).mono ?_); (case side1 => exact zH37); (case side2 => exact (Kd.R_reads' HO_11.out).2.1); (case side3 => exact zH36); (case side4 => exact (Kd.R_reads' HO335.out).2.1); rintro e w176 ⟨rfl, hb⟩; refine ⟨_, rfl, ?_⟩; have n_ := zA_ (zb (zp zG83 hb)) (zA_ (zb (zad zG82 hb)) (zA_ (zb (zp zG84 hb)) (zA_ (zb (zp zG80 hb)) (zA_ (zb (zp zG81 hb)) (zA_ (zb (zp zG85 hb)) (zA_ (zb (zu (g := gb315) (o := .cells #[.slice Ao31 t309.length co31, .int .i64 t312] 50 (0, 0)) zG77 hb)) (zA_ (zb (zu (g := gb331) (o := .cells #[.slice Ao41 t325.length co41, .int .i64 t328] 50 (0, 0)) zG78 hb)) (zb (zq zG64 hb))))))))); clear HO_11 HO_12 HO_13 HO_316000 HO_332000 HO335 BK315 BK331 HB; obtain ⟨HO_11, HO_12, HO_13, HO_316000, HO_332000, HO335, BK315, BK331, HB⟩ := n_; (try clear hb)) | ((with_reducible refine gate_callee (f := 25) rfl ?_); refine goesL_ (some 82) rfl rfl Try.func25 zG96 rfl #[.slice A1 l1.length c1] rfl zG65 ?_; (with_reducible refine (laws_toWorkerS.calls kj19 _ _ l1 t337 _ ?side1 ?side2 A63.out).mono ?_); (case side1 => exact zH49); (case side2 => exact HC1.out); rintro e w177 ⟨v338, rfl, ho0, hb⟩; refine ⟨_, rfl, ?_⟩; have n_ := zA_ (zb (zp zG83 hb)) (zA_ (zb (zbh zG82 (Kd.S_base ho0) hb)) (zA_ (zb (zp zG84 hb)) (zA_ (zb (zp zG80 hb)) (zA_ (zb (zp zG81 hb)) (zA_ (zb (zp zG85 hb)) (zA_ (zb (zbf (Kd.S_new' ho0 (Kd.S_lt zG82)) (zo zG64))) (zA_ (zb (zu (g := gb315) (o := .cells #[.slice Ao31 t309.length co31, .int .i64 t312] 50 (0, 0)) zG77 hb)) (zA_ (zb (zu (g := gb331) (o := .cells #[.slice Ao41 t325.length co41, .int .i64 t328] 50 (0, 0)) zG78 hb)) (zb (zq zG64 hb)))))))))); clear HO_11 HO_12 HO_13 HO_316000 HO_332000 HO335 BK315 BK331 HB; obtain ⟨HO_11, HO_12, HO_13, HO_316000, HO_332000, HO335, HO339, BK315, BK331, HB⟩ := n_; (try clear hb); (try clear ho0); obtain ⟨Ao178, co178, eo178⟩ := zbg HO339.out; subst eo178) | ((with_reducible refine gate_callee (f := 29) rfl ?_); refine goesL_ (some 83) rfl rfl Try.func29 zG96 rfl #[.slice Ao37 t319.length co37, .slice Ao178 t337.length co178] rfl zG65 ?_; (with_reducible refine (laws_eqWorkerS.calls kj19 _ _ t319 _ _ t337 true _ ?side1 ?side2 ?side3 ?side4 A64.out).mono ?_); (case side1 => exact zH47); (case side2 => exact (zak HO_12.out).2.1); (case side3 => exact zH46); (case side4 => exact (zak HO339.out).2.1); rintro e w179 ⟨rfl, hb⟩; refine ⟨_, rfl, ?_⟩; have n_ := zA_ (zb (zp zG83 hb)) (zA_ (zb (zad zG82 hb)) (zA_ (zb (zp zG84 hb)) (zA_ (zb (zp zG80 hb)) (zA_ (zb (zp zG81 hb)) (zA_ (zb (zp zG85 hb)) (zA_ (zb (zad zK186 hb)) (zA_ (zb (zu (g := gb315) (o := .cells #[.slice Ao31 t309.length co31, .int .i64 t312] 50 (0, 0)) zG77 hb)) (zA_ (zb (zu (g := gb331) (o := .cells #[.slice Ao41 t325.length co41, .int .i64 t328] 50 (0, 0)) zG78 hb)) (zb (zq zG64 hb)))))))))); clear HO_11 HO_12 HO_13 HO_316000 HO_332000 HO335 HO339 BK315 BK331 HB; obtain ⟨HO_11, HO_12, HO_13, HO_316000, HO_332000, HO335, HO339, BK315, BK331, HB⟩ := n_; (try clear hb)) | ((with_reducible refine gate_callee (f := 10) rfl ?_); refine goesL_ (some 87) rfl rfl Try.func10 zG96 rfl #[.slice A2 l2.length c2] rfl zG65 ?_; (with_reducible refine (laws_toIntS.calls kj19 _ _ l2 t341 _ ?side1 ?side2 A66.out).mono ?_); (case side1 => exact zH48); (case side2 => exact HC2.out); rintro e w180 ⟨v342, rfl, ho0, hb⟩; refine ⟨_, rfl, ?_⟩; have n_ := zA_ (zb (zp zG83 hb)) (zA_ (zb (zad zG82 hb)) (zA_ (zb (zai zG84 (zal ho0) hb)) (zA_ (zb (zai zG80 (zal ho0) hb)) (zA_ (zb (zai zG81 (zal ho0) hb)) (zA_ (zb (zp zG85 hb)) (zA_ (zb (zad zK186 hb)) (zA_ (zb (zag (zan (zan (zan ho0 (zaq zG84)) (zaq zG80)) (zaq zG81)) (zo zG64))) (zA_ (zb (zu (g := gb315) (o := .cells #[.slice Ao31 t309.length co31, .int .i64 t312] 50 (0, 0)) zG77 hb)) (zA_ (zb (zu (g := gb331) (o := .cells #[.slice Ao41 t325.length co41, .int .i64 t328] 50 (0, 0)) zG78 hb)) (zb (zq zG64 hb))))))))))); clear HO_11 HO_12 HO_13 HO_316000 HO_332000 HO335 HO339 BK315 BK331 HB; obtain ⟨HO_11, HO_12, HO_13, HO_316000, HO_332000, HO335, HO339, HO343, BK315, BK331, HB⟩ := n_; (try clear hb); (try clear ho0); obtain ⟨Ao181, co181, eo181⟩ := zah HO343.out; subst eo181) | ((with_reducible refine gate_callee (f := 15) rfl ?_); refine goesL_ (some 88) rfl rfl Try.func15 zG96 rfl #[.slice Ao38 t322.length co38, .slice Ao181 t341.length co181] rfl zG65 ?_; (with_reducible refine (laws_eqIntS.calls kj19 _ _ t322 _ _ t341 false _ ?side1 ?side2 ?side3 ?side4 A67.out).mono ?_); (case side1 => exact zH35); (case side2 => exact (Kd.R_reads' HO_13.out).2.1); (case side3 => exact zH34); (case side4 => exact (Kd.R_reads' HO343.out).2.1); rintro e w' ⟨rfl, ⟨nd, rfl⟩⟩; refine ⟨_, rfl, ?_⟩))
    go_ret
    exact zH16
   subst c68
   have H1 : ((laws_markShiftS.f kj19 t316 1).bind fun bt345 => ((laws_markWorkerS.f kj19 t319 bt345.1).bind fun t347 => ((laws_markIntS.f kj19 t322 t347).bind fun bt348 => (if bt348.1 < 0 then (laws_FnExactRosterOf.j1 kj19 l0 l1 l2 t313 t314 true t309 t312 t325 t328) else ((laws_eqRoster.f kj19 t325 t328 t309 t312).bind fun t350 => (if t350 = true then (if t329 = t313 then (laws_FnExactRosterOf.j1 kj19 l0 l1 l2 t313 t314 (t330 != t314) t309 t312 t325 t328) else (laws_FnExactRosterOf.j1 kj19 l0 l1 l2 t313 t314 true t309 t312 t325 t328)) else (laws_FnExactRosterOf.j1 kj19 l0 l1 l2 t313 t314 true t309 t312 t325 t328))))))) = some r := by rw [if_pos rfl] at H; exact H
   clear H
   have H := H1
   clear H1
   replace H := Option.bind_eq_some_iff.mp H
   obtain ⟨⟨t345, t346⟩, A690, H⟩ := H
   replace H : ((laws_markWorkerS.f kj19 t319 t345).bind fun t347 => ((laws_markIntS.f kj19 t322 t347).bind fun bt348 => (if bt348.1 < 0 then (laws_FnExactRosterOf.j1 kj19 l0 l1 l2 t313 t314 true t309 t312 t325 t328) else ((laws_eqRoster.f kj19 t325 t328 t309 t312).bind fun t350 => (if t350 = true then (if t329 = t313 then (laws_FnExactRosterOf.j1 kj19 l0 l1 l2 t313 t314 (t330 != t314) t309 t312 t325 t328) else (laws_FnExactRosterOf.j1 kj19 l0 l1 l2 t313 t314 true t309 t312 t325 t328)) else (laws_FnExactRosterOf.j1 kj19 l0 l1 l2 t313 t314 true t309 t312 t325 t328)))))) = some r := H
   have A69 := zb A690
   clear A690
   replace H := Option.bind_eq_some_iff.mp H
   obtain ⟨t347, A700, H⟩ := H
   replace H : ((laws_markIntS.f kj19 t322 t347).bind fun bt348 => (if bt348.1 < 0 then (laws_FnExactRosterOf.j1 kj19 l0 l1 l2 t313 t314 true t309 t312 t325 t328) else ((laws_eqRoster.f kj19 t325 t328 t309 t312).bind fun t350 => (if t350 = true then (if t329 = t313 then (laws_FnExactRosterOf.j1 kj19 l0 l1 l2 t313 t314 (t330 != t314) t309 t312 t325 t328) else (laws_FnExactRosterOf.j1 kj19 l0 l1 l2 t313 t314 true t309 t312 t325 t328)) else (laws_FnExactRosterOf.j1 kj19 l0 l1 l2 t313 t314 true t309 t312 t325 t328))))) = some r := H
   have A70 := zb A700
   clear A700
   replace H := Option.bind_eq_some_iff.mp H
   obtain ⟨⟨t348, t349⟩, A710, H⟩ := H
   replace H : (if t348 < 0 then (laws_FnExactRosterOf.j1 kj19 l0 l1 l2 t313 t314 true t309 t312 t325 t328) else ((laws_eqRoster.f kj19 t325 t328 t309 t312).bind fun t350 => (if t350 = true then (if t329 = t313 then (laws_FnExactRosterOf.j1 kj19 l0 l1 l2 t313 t314 (t330 != t314) t309 t312 t325 t328) else (laws_FnExactRosterOf.j1 kj19 l0 l1 l2 t313 t314 true t309 t312 t325 t328)) else (laws_FnExactRosterOf.j1 kj19 l0 l1 l2 t313 t314 true t309 t312 t325 t328)))) = some r := H
   have A71 := zb A710
   clear A710
   have HC72 := zb H
   clear H
   go_upto_region 27 with (first | ((with_reducible refine gate_callee (f := 24) rfl ?_); refine goesL_ (some 77) rfl rfl Try.func24 zG96 rfl #[.slice A0 l0.length c0] rfl zG65 ?_; (with_reducible refine (laws_toShiftS.calls kj19 _ _ l0 t333 _ ?side1 ?side2 A60.out).mono ?_); (case side1 => exact zH50); (case side2 => exact HC0.out); rintro e w73 ⟨v334, rfl, ho0, hb⟩; refine ⟨_, rfl, ?_⟩; have n_ := zA_ (zb (zai zG83 (zal ho0) hb)) (zA_ (zb (zad zG82 hb)) (zA_ (zb (zp zG84 hb)) (zA_ (zb (zp zG80 hb)) (zA_ (zb (zp zG81 hb)) (zA_ (zb (zag (zan ho0 (zaq zG83)) (zo zG64))) (zA_ (zb (zu (g := gb315) (o := .cells #[.slice Ao31 t309.length co31, .int .i64 t312] 50 (0, 0)) zG77 hb)) (zA_ (zb (zu (g := gb331) (o := .cells #[.slice Ao41 t325.length co41, .int .i64 t328] 50 (0, 0)) zG78 hb)) (zb (zq zG64 hb))))))))); clear HO_11 HO_12 HO_13 HO_316000 HO_332000 BK315 BK331 HB; obtain ⟨HO_11, HO_12, HO_13, HO_316000, HO_332000, HO335, BK315, BK331, HB⟩ := n_; (try clear hb); (try clear ho0); obtain ⟨Ao74, co74, eo74⟩ := zah HO335.out; subst eo74) | ((with_reducible refine gate_callee (f := 28) rfl ?_); refine goesL_ (some 78) rfl rfl Try.func28 zG96 rfl #[.slice Ao36 t316.length co36, .slice Ao74 t333.length co74] rfl zG65 ?_; (with_reducible refine (laws_eqShiftS.calls kj19 _ _ t316 _ _ t333 true _ ?side1 ?side2 ?side3 ?side4 A61.out).mono ?_); (case side1 => exact zH37); (case side2 => exact (Kd.R_reads' HO_11.out).2.1); (case side3 => exact zH36); (case side4 => exact (Kd.R_reads' HO335.out).2.1); rintro e w75 ⟨rfl, hb⟩; refine ⟨_, rfl, ?_⟩; have n_ := zA_ (zb (zp zG83 hb)) (zA_ (zb (zad zG82 hb)) (zA_ (zb (zp zG84 hb)) (zA_ (zb (zp zG80 hb)) (zA_ (zb (zp zG81 hb)) (zA_ (zb (zp zG85 hb)) (zA_ (zb (zu (g := gb315) (o := .cells #[.slice Ao31 t309.length co31, .int .i64 t312] 50 (0, 0)) zG77 hb)) (zA_ (zb (zu (g := gb331) (o := .cells #[.slice Ao41 t325.length co41, .int .i64 t328] 50 (0, 0)) zG78 hb)) (zb (zq zG64 hb))))))))); clear HO_11 HO_12 HO_13 HO_316000 HO_332000 HO335 BK315 BK331 HB; obtain ⟨HO_11, HO_12, HO_13, HO_316000, HO_332000, HO335, BK315, BK331, HB⟩ := n_; (try clear hb)) | ((with_reducible refine gate_callee (f := 25) rfl ?_); refine goesL_ (some 82) rfl rfl Try.func25 zG96 rfl #[.slice A1 l1.length c1] rfl zG65 ?_; (with_reducible refine (laws_toWorkerS.calls kj19 _ _ l1 t337 _ ?side1 ?side2 A63.out).mono ?_); (case side1 => exact zH49); (case side2 => exact HC1.out); rintro e w76 ⟨v338, rfl, ho0, hb⟩; refine ⟨_, rfl, ?_⟩; have n_ := zA_ (zb (zp zG83 hb)) (zA_ (zb (zbh zG82 (Kd.S_base ho0) hb)) (zA_ (zb (zp zG84 hb)) (zA_ (zb (zp zG80 hb)) (zA_ (zb (zp zG81 hb)) (zA_ (zb (zp zG85 hb)) (zA_ (zb (zbf (Kd.S_new' ho0 (Kd.S_lt zG82)) (zo zG64))) (zA_ (zb (zu (g := gb315) (o := .cells #[.slice Ao31 t309.length co31, .int .i64 t312] 50 (0, 0)) zG77 hb)) (zA_ (zb (zu (g := gb331) (o := .cells #[.slice Ao41 t325.length co41, .int .i64 t328] 50 (0, 0)) zG78 hb)) (zb (zq zG64 hb)))))))))); clear HO_11 HO_12 HO_13 HO_316000 HO_332000 HO335 BK315 BK331 HB; obtain ⟨HO_11, HO_12, HO_13, HO_316000, HO_332000, HO335, HO339, BK315, BK331, HB⟩ := n_; (try clear hb); (try clear ho0); obtain ⟨Ao77, co77, eo77⟩ := zbg HO339.out; subst eo77) | ((with_reducible refine gate_callee (f := 29) rfl ?_); refine goesL_ (some 83) rfl rfl Try.func29 zG96 rfl #[.slice Ao37 t319.length co37, .slice Ao77 t337.length co77] rfl zG65 ?_; (with_reducible refine (laws_eqWorkerS.calls kj19 _ _ t319 _ _ t337 true _ ?side1 ?side2 ?side3 ?side4 A64.out).mono ?_); (case side1 => exact zH47); (case side2 => exact (zak HO_12.out).2.1); (case side3 => exact zH46); (case side4 => exact (zak HO339.out).2.1); rintro e w78 ⟨rfl, hb⟩; refine ⟨_, rfl, ?_⟩; have n_ := zA_ (zb (zp zG83 hb)) (zA_ (zb (zad zG82 hb)) (zA_ (zb (zp zG84 hb)) (zA_ (zb (zp zG80 hb)) (zA_ (zb (zp zG81 hb)) (zA_ (zb (zp zG85 hb)) (zA_ (zb (zad zK186 hb)) (zA_ (zb (zu (g := gb315) (o := .cells #[.slice Ao31 t309.length co31, .int .i64 t312] 50 (0, 0)) zG77 hb)) (zA_ (zb (zu (g := gb331) (o := .cells #[.slice Ao41 t325.length co41, .int .i64 t328] 50 (0, 0)) zG78 hb)) (zb (zq zG64 hb)))))))))); clear HO_11 HO_12 HO_13 HO_316000 HO_332000 HO335 HO339 BK315 BK331 HB; obtain ⟨HO_11, HO_12, HO_13, HO_316000, HO_332000, HO335, HO339, BK315, BK331, HB⟩ := n_; (try clear hb)) | ((with_reducible refine gate_callee (f := 10) rfl ?_); refine goesL_ (some 87) rfl rfl Try.func10 zG96 rfl #[.slice A2 l2.length c2] rfl zG65 ?_; (with_reducible refine (laws_toIntS.calls kj19 _ _ l2 t341 _ ?side1 ?side2 A66.out).mono ?_); (case side1 => exact zH48); (case side2 => exact HC2.out); rintro e w79 ⟨v342, rfl, ho0, hb⟩; refine ⟨_, rfl, ?_⟩; have n_ := zA_ (zb (zp zG83 hb)) (zA_ (zb (zad zG82 hb)) (zA_ (zb (zai zG84 (zal ho0) hb)) (zA_ (zb (zai zG80 (zal ho0) hb)) (zA_ (zb (zai zG81 (zal ho0) hb)) (zA_ (zb (zp zG85 hb)) (zA_ (zb (zad zK186 hb)) (zA_ (zb (zag (zan (zan (zan ho0 (zaq zG84)) (zaq zG80)) (zaq zG81)) (zo zG64))) (zA_ (zb (zu (g := gb315) (o := .cells #[.slice Ao31 t309.length co31, .int .i64 t312] 50 (0, 0)) zG77 hb)) (zA_ (zb (zu (g := gb331) (o := .cells #[.slice Ao41 t325.length co41, .int .i64 t328] 50 (0, 0)) zG78 hb)) (zb (zq zG64 hb))))))))))); clear HO_11 HO_12 HO_13 HO_316000 HO_332000 HO335 HO339 BK315 BK331 HB; obtain ⟨HO_11, HO_12, HO_13, HO_316000, HO_332000, HO335, HO339, HO343, BK315, BK331, HB⟩ := n_; (try clear hb); (try clear ho0); obtain ⟨Ao80, co80, eo80⟩ := zah HO343.out; subst eo80) | ((with_reducible refine gate_callee (f := 15) rfl ?_); refine goesL_ (some 88) rfl rfl Try.func15 zG96 rfl #[.slice Ao38 t322.length co38, .slice Ao80 t341.length co80] rfl zG65 ?_; (with_reducible refine (laws_eqIntS.calls kj19 _ _ t322 _ _ t341 true _ ?side1 ?side2 ?side3 ?side4 A67.out).mono ?_); (case side1 => exact zH35); (case side2 => exact (Kd.R_reads' HO_13.out).2.1); (case side3 => exact zH34); (case side4 => exact (Kd.R_reads' HO343.out).2.1); rintro e w' ⟨rfl, ⟨nd, rfl⟩⟩; refine ⟨_, rfl, ?_⟩) | ((with_reducible refine gate_callee (f := 30) rfl ?_); refine goesL_ (some 92) rfl rfl Try.func30 zG96 rfl #[.slice Ao36 t316.length co36, .int .i64 1] rfl zG65 ?_; (with_reducible refine (laws_markShiftS.calls kj19 (fun k_ => some k_ = (.slice Ao36 t316.length co36 : Value).ownBlock) (.slice Ao36 t316.length co36) t316 1 t345 t346 w _ ?side1 ?side2 A69.out).mono ?_); (case side1 => exact zH33); (case side2 => exact zat rfl HO_11.out); rintro e w81 ⟨rfl, hy0, hb, hkp⟩; refine ⟨_, rfl, ?_⟩; have n_ := zA_ (zb (zau rfl hy0 (fun k_ e_ => HO_11.out.1 k_ e_))) (zA_ (zb (zar (ok' := fun k_ => some k_ ≠ (.slice Ao77 t337.length co77 : Value).ownBlock) (Kd.S_keptB ((Kd.S_apart' HO_12.out (zas HO_11.out) (by decide))) hkp (fun k_ hk_ hs_ => (hk_.2) hs_)) (fun k_ hk_ => hk_.1.1.2))) (zA_ (zb (zx (ok' := fun k_ => some k_ ≠ (.slice Ao31 t309.length co31 : Value).ownBlock ∧ some k_ ≠ (.slice Ao41 t325.length co41 : Value).ownBlock ∧ some k_ ≠ (.slice Ao80 t341.length co80 : Value).ownBlock) (zao ((zaz HO_13.out (zas HO_11.out) (by decide))) hkp (fun k_ hk_ hs_ => (hk_.2) hs_)) (fun k_ hk_ => ⟨hk_.1.1.1.1, hk_.1.1.1.2, hk_.1.1.2⟩))) (zA_ (zb (zx (ok' := fun k_ => some k_ ≠ (.slice Ao38 t322.length co38 : Value).ownBlock ∧ some k_ ≠ (.slice Ao41 t325.length co41 : Value).ownBlock ∧ some k_ ≠ (.slice Ao80 t341.length co80 : Value).ownBlock) (zao ((zaz HO_316000.out (zas HO_11.out) (by decide))) hkp (fun k_ hk_ hs_ => (hk_.2) hs_)) (fun k_ hk_ => ⟨hk_.1.1.1.1, hk_.1.1.1.2, hk_.1.1.2⟩))) (zA_ (zb (zx (ok' := fun k_ => some k_ ≠ (.slice Ao38 t322.length co38 : Value).ownBlock ∧ some k_ ≠ (.slice Ao31 t309.length co31 : Value).ownBlock ∧ some k_ ≠ (.slice Ao80 t341.length co80 : Value).ownBlock) (zao ((zaz HO_332000.out (zas HO_11.out) (by decide))) hkp (fun k_ hk_ hs_ => (hk_.2) hs_)) (fun k_ hk_ => ⟨hk_.1.1.1.1, hk_.1.1.1.2, hk_.1.1.2⟩))) (zA_ (zb (zav zG77 hkp (fun hs_ => (fun e_ => (zay HO_11.out BK315.out (by decide)) e_) hs_))) (zA_ (zb (zav zG78 hkp (fun hs_ => (fun e_ => (zay HO_11.out BK331.out (by decide)) e_) hs_))) (zA_ (zb (zx (ok' := fun k_ => some k_ ≠ (.slice Ao36 t316.length co36 : Value).ownBlock) (zao (HO335.out) hkp (fun k_ hk_ hs_ => (hk_.2) hs_)) (fun k_ hk_ => hk_.1.2))) (zA_ (zb (zar (ok' := fun k_ => some k_ ≠ (.slice Ao37 t319.length co37 : Value).ownBlock) (Kd.S_keptB ((Kd.S_apart' HO339.out (zas HO_11.out) (by decide))) hkp (fun k_ hk_ hs_ => (hk_.2) hs_)) (fun k_ hk_ => hk_.1.1.2))) (zA_ (zb (zx (ok' := fun k_ => some k_ ≠ (.slice Ao38 t322.length co38 : Value).ownBlock ∧ some k_ ≠ (.slice Ao31 t309.length co31 : Value).ownBlock ∧ some k_ ≠ (.slice Ao41 t325.length co41 : Value).ownBlock) (zao ((zaz HO343.out (zas HO_11.out) (by decide))) hkp (fun k_ hk_ hs_ => (hk_.2) hs_)) (fun k_ hk_ => ⟨hk_.1.1.1.1.2, hk_.1.1.1.2, hk_.1.1.2⟩))) (zb (hb))))))))))); clear HO_11 HO_12 HO_13 HO_316000 HO_332000 BK315 BK331 HO335 HO339 HO343 HB; obtain ⟨HO_11, HO_12, HO_13, HO_316000, HO_332000, BK315, BK331, HO335, HO339, HO343, HB⟩ := n_; (try clear hb); (try clear hkp); (try clear hy0)) | ((with_reducible refine gate_callee (f := 31) rfl ?_); refine goesL_ (some 95) rfl rfl Try.func31 zG96 rfl #[.slice Ao37 t319.length co37, .int .i64 t345] rfl zG65 ?_; (with_reducible refine (laws_markWorkerS.calls kj19 (fun k_ => some k_ ≠ (.slice Ao77 t337.length co77 : Value).ownBlock) (.slice Ao37 t319.length co37) t319 t345 t347 w _ ?side1 ?side2 A70.out).mono ?_); (case side1 => exact zH33); (case side2 => exact Kd.S_R (HO_12.out)); rintro e w82 ⟨rfl, hb, hkp⟩; refine ⟨_, rfl, ?_⟩; have n_ := zA_ (zb (zau (ok := fun k_ => some k_ ≠ (.slice Ao74 t333.length co74 : Value).ownBlock) rfl (zao (zat rfl (HO_11.out)) hkp (fun k_ hk_ hs_ => hv_ne2 hs_.2 (zas (HO_11.out)) hk_ (by decide))) (fun k_ e_ => ((HO_11.out).1 k_ e_).2))) (zA_ (zb (zau (ok := fun k_ => some k_ ≠ (.slice Ao31 t309.length co31 : Value).ownBlock ∧ some k_ ≠ (.slice Ao41 t325.length co41 : Value).ownBlock ∧ some k_ ≠ (.slice Ao80 t341.length co80 : Value).ownBlock) rfl (zao (zat rfl (HO_13.out)) hkp (fun k_ hk_ hs_ => hv_ne2 hs_.2 (zas (HO_13.out)) hk_ (by decide))) (fun k_ e_ => ⟨((HO_13.out).1 k_ e_).1, ((HO_13.out).1 k_ e_).2.1, ((HO_13.out).1 k_ e_).2.2⟩))) (zA_ (zb (zau (ok := fun k_ => some k_ ≠ (.slice Ao38 t322.length co38 : Value).ownBlock ∧ some k_ ≠ (.slice Ao41 t325.length co41 : Value).ownBlock ∧ some k_ ≠ (.slice Ao80 t341.length co80 : Value).ownBlock) rfl (zao (zat rfl (HO_316000.out)) hkp (fun k_ hk_ hs_ => hv_ne2 hs_.2 (zas (HO_316000.out)) hk_ (by decide))) (fun k_ e_ => ⟨((HO_316000.out).1 k_ e_).1, ((HO_316000.out).1 k_ e_).2.1, ((HO_316000.out).1 k_ e_).2.2⟩))) (zA_ (zb (zau (ok := fun k_ => some k_ ≠ (.slice Ao38 t322.length co38 : Value).ownBlock ∧ some k_ ≠ (.slice Ao31 t309.length co31 : Value).ownBlock ∧ some k_ ≠ (.slice Ao80 t341.length co80 : Value).ownBlock) rfl (zao (zat rfl (HO_332000.out)) hkp (fun k_ hk_ hs_ => hv_ne2 hs_.2 (zas (HO_332000.out)) hk_ (by decide))) (fun k_ e_ => ⟨((HO_332000.out).1 k_ e_).1, ((HO_332000.out).1 k_ e_).2.1, ((HO_332000.out).1 k_ e_).2.2⟩))) (zA_ (zb (zav zG77 hkp (fun hs_ => hv_ne hs_.2 zG77 (by decide)))) (zA_ (zb (zav zG78 hkp (fun hs_ => hv_ne hs_.2 zG78 (by decide)))) (zA_ (zb (zau (ok := fun k_ => some k_ ≠ (.slice Ao36 t316.length co36 : Value).ownBlock) rfl (zao (zat rfl (HO335.out)) hkp (fun k_ hk_ hs_ => hv_ne2 hs_.2 (zas (HO335.out)) hk_ (by decide))) (fun k_ e_ => ((HO335.out).1 k_ e_)))) (zA_ (zb (zau (ok := fun k_ => some k_ ≠ (.slice Ao38 t322.length co38 : Value).ownBlock ∧ some k_ ≠ (.slice Ao31 t309.length co31 : Value).ownBlock ∧ some k_ ≠ (.slice Ao41 t325.length co41 : Value).ownBlock) rfl (zao (zat rfl (HO343.out)) hkp (fun k_ hk_ hs_ => hv_ne2 hs_.2 (zas (HO343.out)) hk_ (by decide))) (fun k_ e_ => ⟨((HO343.out).1 k_ e_).1, ((HO343.out).1 k_ e_).2.1, ((HO343.out).1 k_ e_).2.2⟩))) (zb (hb))))))))); clear HO_11 HO_13 HO_316000 HO_332000 BK315 BK331 HO335 HO343 HB HO339 HO_12; obtain ⟨HO_11, HO_13, HO_316000, HO_332000, BK315, BK331, HO335, HO343, HB⟩ := n_; (try clear hb); (try clear hkp)) | ((with_reducible refine gate_callee (f := 18) rfl ?_); refine goesL_ (some 98) rfl rfl Try.func18 zG96 rfl #[.slice Ao38 t322.length co38, .int .i64 t347] rfl zG65 ?_; (with_reducible refine (laws_markIntS.calls kj19 (fun k_ => some k_ = (.slice Ao38 t322.length co38 : Value).ownBlock) (.slice Ao38 t322.length co38) t322 t347 t348 t349 w _ ?side1 ?side2 A71.out).mono ?_); (case side1 => exact zH33); (case side2 => exact zat rfl HO_13.out); rintro e w83 ⟨rfl, hy0, hb, hkp⟩; refine ⟨_, rfl, ?_⟩; have n_ := zA_ (zb (zx (ok' := fun k_ => some k_ ≠ (.slice Ao74 t333.length co74 : Value).ownBlock) (zao ((zaz HO_11.out (zas HO_13.out) (by decide))) hkp (fun k_ hk_ hs_ => (hk_.2) hs_)) (fun k_ hk_ => hk_.1.1))) (zA_ (zb (zau rfl hy0 (fun k_ e_ => HO_13.out.1 k_ e_))) (zA_ (zb (zx (ok' := fun k_ => some k_ ≠ (.slice Ao38 t322.length co38 : Value).ownBlock ∧ some k_ ≠ (.slice Ao41 t325.length co41 : Value).ownBlock ∧ some k_ ≠ (.slice Ao80 t341.length co80 : Value).ownBlock) (zao (HO_316000.out) hkp (fun k_ hk_ hs_ => (hk_.1) hs_)) (fun k_ hk_ => ⟨hk_.1.1, hk_.1.2.1, hk_.1.2.2⟩))) (zA_ (zb (zx (ok' := fun k_ => some k_ ≠ (.slice Ao38 t322.length co38 : Value).ownBlock ∧ some k_ ≠ (.slice Ao31 t309.length co31 : Value).ownBlock ∧ some k_ ≠ (.slice Ao80 t341.length co80 : Value).ownBlock) (zao (HO_332000.out) hkp (fun k_ hk_ hs_ => (hk_.1) hs_)) (fun k_ hk_ => ⟨hk_.1.1, hk_.1.2.1, hk_.1.2.2⟩))) (zA_ (zb (zav zG77 hkp (fun hs_ => (fun e_ => (zay HO_13.out BK315.out (by decide)) e_) hs_))) (zA_ (zb (zav zG78 hkp (fun hs_ => (fun e_ => (zay HO_13.out BK331.out (by decide)) e_) hs_))) (zA_ (zb (zx (ok' := fun k_ => some k_ ≠ (.slice Ao36 t316.length co36 : Value).ownBlock) (zao ((zaz HO335.out (zas HO_13.out) (by decide))) hkp (fun k_ hk_ hs_ => (hk_.2) hs_)) (fun k_ hk_ => hk_.1.1))) (zA_ (zb (zx (ok' := fun k_ => some k_ ≠ (.slice Ao38 t322.length co38 : Value).ownBlock ∧ some k_ ≠ (.slice Ao31 t309.length co31 : Value).ownBlock ∧ some k_ ≠ (.slice Ao41 t325.length co41 : Value).ownBlock) (zao (HO343.out) hkp (fun k_ hk_ hs_ => (hk_.1) hs_)) (fun k_ hk_ => ⟨hk_.1.1, hk_.1.2.1, hk_.1.2.2⟩))) (zb (hb))))))))); clear HO_11 HO_13 HO_316000 HO_332000 BK315 BK331 HO335 HO343 HB; obtain ⟨HO_11, HO_13, HO_316000, HO_332000, BK315, BK331, HO335, HO343, HB⟩ := n_; (try clear hb); (try clear hkp); (try clear hy0)))
   (try simp only [Act.put, List.setIfInBounds_toArray, List.set_cons_zero, List.set_cons_succ])
   go_cut [116] (fun v116 wc => ∃ (kq : Nat) (x116_71 : Bool), v116 = .bool x116_71 ∧ Aside0 (laws_FnExactRosterOf.j1 kq l0 l1 l2 t313 t314 x116_71 t309 t312 t325 t328 = some r) ∧ Aside0 (kq ≤ kj19) ∧ Aside0 (Kd.R (Kd.int .i64) 3 wc w.heap.size (fun k_ => some k_ ≠ ((.slice Ao41 t325.length co41) : Value).ownBlock) (.slice Ao31 t309.length co31) t309) ∧ Aside0 (Kd.R (Kd.int .i64) 3 wc w.heap.size (fun k_ => some k_ ≠ ((.slice Ao31 t309.length co31) : Value).ownBlock) (.slice Ao41 t325.length co41) t325) ∧ Aside0 (wc.heap[gb315]? = some (.cells #[(.slice Ao31 t309.length co31), .int .i64 t312] 50 (0, 0))) ∧ Aside0 (wc.heap[gb331]? = some (.cells #[(.slice Ao41 t325.length co41), .int .i64 t328] 50 (0, 0))) ∧ Aside0 (Below w.heap.size w wc))
   case first =>
    have H := HC72.out
    clear HC72
    by_cases c84 : t348 < 0
    ·rw [if_pos c84] at H
     have c84b0 := decide_eq_true c84
     clear c84
     (first | rw [c84b0] | (simp only [i64_w, i32_w]; rw [c84b0]) | skip)
     have H' := zb H
     clear H
     go_wp2
     go_meet
     case rel => exact ⟨_, (true), zG95, H', ⟨zH96⟩, ⟨zH74⟩, ⟨zH75⟩, ⟨zH87⟩, ⟨zH88⟩, ⟨zH28⟩⟩
    rw [if_neg c84] at H
    have c84b0 := decide_eq_false c84
    clear c84
    (first | rw [c84b0] | (simp only [i64_w, i32_w]; rw [c84b0]) | skip)
    replace H := Option.bind_eq_some_iff.mp H
    obtain ⟨t350, A850, H⟩ := H
    replace H : (if t350 = true then (if t329 = t313 then (laws_FnExactRosterOf.j1 kj19 l0 l1 l2 t313 t314 (t330 != t314) t309 t312 t325 t328) else (laws_FnExactRosterOf.j1 kj19 l0 l1 l2 t313 t314 true t309 t312 t325 t328)) else (laws_FnExactRosterOf.j1 kj19 l0 l1 l2 t313 t314 true t309 t312 t325 t328)) = some r := H
    have A85 := zb A850
    clear A850
    by_cases c86 : t350 = true
    rotate_left
    ·replace c86 := Bool.eq_false_iff.mpr c86
     subst c86
     have H1 : (laws_FnExactRosterOf.j1 kj19 l0 l1 l2 t313 t314 true t309 t312 t325 t328) = some r := by rw [if_neg (show ¬ (false = true) by decide)] at H; exact H
     clear H
     have H := H1
     clear H1
     have H' := zb H
     clear H
     have hnb96 := NB331_315.out
     have hnc96 := NB315_331.out
     have hcz97_0 : w83.cell? ⟨gb331, 0, none⟩ = some (.slice Ao41 t325.length co41) := (zg BK331.out 0).trans rfl
     have hcz97_1 : w83.cell? ⟨gb331, 1, none⟩ = some (.int .i64 t328) := (zg BK331.out 1).trans rfl
     have hfz97_0 := zf BK331.out 0
     have hfz97_1 := zf BK331.out 1
     have hcz98_0 : w83.cell? ⟨gb315, 0, none⟩ = some (.slice Ao31 t309.length co31) := (zg BK315.out 0).trans rfl
     have hcz98_1 : w83.cell? ⟨gb315, 1, none⟩ = some (.int .i64 t312) := (zg BK315.out 1).trans rfl
     have hfz98_0 := zf BK315.out 0
     have hfz98_1 := zf BK315.out 1
     go_wp2_with (first | (go_at_call 27; (with_reducible refine (laws_eqRoster.calls kj19 _ _ t325 t328 _ _ t309 t312 false _ ?side1 ?side2 ?side3 ?side4 A85.out).mono ?_); (case side1 => exact zH30); (case side2 => exact zH103); (case side3 => exact zH29); (case side4 => exact zH102); rintro e w99 ⟨rfl, hb⟩; have n_ := zA_ (zb (zp zG83 hb)) (zA_ (zb (zp zG84 hb)) (zA_ (zb (zp zG80 hb)) (zA_ (zb (zp zG81 hb)) (zA_ (zb (zp zG85 hb)) (zA_ (zb (zp zK194 hb)) (zA_ (zb (zu (g := gb315) (o := .cells #[.slice Ao31 t309.length co31, .int .i64 t312] 50 (0, 0)) zG77 hb)) (zA_ (zb (zu (g := gb331) (o := .cells #[.slice Ao41 t325.length co41, .int .i64 t328] 50 (0, 0)) zG78 hb)) (zb (zq zG64 hb))))))))); clear HO_11 HO_13 HO_316000 HO_332000 HO335 HO343 BK315 BK331 HB; obtain ⟨HO_11, HO_13, HO_316000, HO_332000, HO335, HO343, BK315, BK331, HB⟩ := n_; (try clear hb)))
     go_meet
     case rel => exact ⟨_, (true), zG95, H', ⟨zH96⟩, ⟨zH74⟩, ⟨zH75⟩, ⟨zH87⟩, ⟨zH88⟩, ⟨zH28⟩⟩
    subst c86
    have H1 : (if t329 = t313 then (laws_FnExactRosterOf.j1 kj19 l0 l1 l2 t313 t314 (t330 != t314) t309 t312 t325 t328) else (laws_FnExactRosterOf.j1 kj19 l0 l1 l2 t313 t314 true t309 t312 t325 t328)) = some r := by rw [if_pos rfl] at H; exact H
    clear H
    have H := H1
    clear H1
    by_cases c87 : t329 = t313
    rotate_left
    ·rw [if_neg c87] at H
     have c87b0 : (t329 == t313) = false := beq_eq_false_iff_ne.mpr c87
     have c87b1 : (t329 != t313) = true := bne_iff_ne.mpr c87
     have H' := zb H
     clear H
     have hnb92 := NB331_315.out
     have hnc92 := NB315_331.out
     have hcz93_0 : w83.cell? ⟨gb331, 0, none⟩ = some (.slice Ao41 t325.length co41) := (zg BK331.out 0).trans rfl
     have hcz93_1 : w83.cell? ⟨gb331, 1, none⟩ = some (.int .i64 t328) := (zg BK331.out 1).trans rfl
     have hfz93_0 := zf BK331.out 0
     have hfz93_1 := zf BK331.out 1
     have hcz94_0 : w83.cell? ⟨gb315, 0, none⟩ = some (.slice Ao31 t309.length co31) := (zg BK315.out 0).trans rfl
     have hcz94_1 : w83.cell? ⟨gb315, 1, none⟩ = some (.int .i64 t312) := (zg BK315.out 1).trans rfl
     have hfz94_0 := zf BK315.out 0
     have hfz94_1 := zf BK315.out 1
     go_wp2_with (first | (go_at_call 27; (with_reducible refine (laws_eqRoster.calls kj19 _ _ t325 t328 _ _ t309 t312 true _ ?side1 ?side2 ?side3 ?side4 A85.out).mono ?_); (case side1 => exact zH30); (case side2 => exact zH103); (case side3 => exact zH29); (case side4 => exact zH102); rintro e w95 ⟨rfl, hb⟩; have n_ := zA_ (zb (zp zG83 hb)) (zA_ (zb (zp zG84 hb)) (zA_ (zb (zp zG80 hb)) (zA_ (zb (zp zG81 hb)) (zA_ (zb (zp zG85 hb)) (zA_ (zb (zp zK194 hb)) (zA_ (zb (zu (g := gb315) (o := .cells #[.slice Ao31 t309.length co31, .int .i64 t312] 50 (0, 0)) zG77 hb)) (zA_ (zb (zu (g := gb331) (o := .cells #[.slice Ao41 t325.length co41, .int .i64 t328] 50 (0, 0)) zG78 hb)) (zb (zq zG64 hb))))))))); clear HO_11 HO_13 HO_316000 HO_332000 HO335 HO343 BK315 BK331 HB; obtain ⟨HO_11, HO_13, HO_316000, HO_332000, HO335, HO343, BK315, BK331, HB⟩ := n_; (try clear hb)))
     go_meet
     case rel => exact ⟨_, (true), zG95, H', ⟨zH96⟩, ⟨zH74⟩, ⟨zH75⟩, ⟨zH87⟩, ⟨zH88⟩, ⟨zH28⟩⟩
    rw [if_pos c87] at H
    have c87b0 : (t329 == t313) = true := beq_iff_eq.mpr c87
    have c87b1 : (t329 != t313) = false := bne_eq_false_iff_eq.mpr c87
    clear c87
    have H' := zb H
    clear H
    have hnb88 := NB331_315.out
    have hnc88 := NB315_331.out
    have hcz89_0 : w83.cell? ⟨gb331, 0, none⟩ = some (.slice Ao41 t325.length co41) := (zg BK331.out 0).trans rfl
    have hcz89_1 : w83.cell? ⟨gb331, 1, none⟩ = some (.int .i64 t328) := (zg BK331.out 1).trans rfl
    have hfz89_0 := zf BK331.out 0
    have hfz89_1 := zf BK331.out 1
    have hcz90_0 : w83.cell? ⟨gb315, 0, none⟩ = some (.slice Ao31 t309.length co31) := (zg BK315.out 0).trans rfl
    have hcz90_1 : w83.cell? ⟨gb315, 1, none⟩ = some (.int .i64 t312) := (zg BK315.out 1).trans rfl
    have hfz90_0 := zf BK315.out 0
    have hfz90_1 := zf BK315.out 1
    go_wp2_with (first | (go_at_call 27; (with_reducible refine (laws_eqRoster.calls kj19 _ _ t325 t328 _ _ t309 t312 true _ ?side1 ?side2 ?side3 ?side4 A85.out).mono ?_); (case side1 => exact zH30); (case side2 => exact zH103); (case side3 => exact zH29); (case side4 => exact zH102); rintro e w91 ⟨rfl, hb⟩; have n_ := zA_ (zb (zp zG83 hb)) (zA_ (zb (zp zG84 hb)) (zA_ (zb (zp zG80 hb)) (zA_ (zb (zp zG81 hb)) (zA_ (zb (zp zG85 hb)) (zA_ (zb (zp zK194 hb)) (zA_ (zb (zu (g := gb315) (o := .cells #[.slice Ao31 t309.length co31, .int .i64 t312] 50 (0, 0)) zG77 hb)) (zA_ (zb (zu (g := gb331) (o := .cells #[.slice Ao41 t325.length co41, .int .i64 t328] 50 (0, 0)) zG78 hb)) (zb (zq zG64 hb))))))))); clear HO_11 HO_13 HO_316000 HO_332000 HO335 HO343 BK315 BK331 HB; obtain ⟨HO_11, HO_13, HO_316000, HO_332000, HO335, HO343, BK315, BK331, HB⟩ := n_; (try clear hb)))
    go_meet
    case rel => exact ⟨_, ((t330 != t314)), zG95, H', ⟨zH96⟩, ⟨zH74⟩, ⟨zH75⟩, ⟨zH87⟩, ⟨zH88⟩, ⟨zH28⟩⟩
   case rest =>
    clear HC72
    try clear c1
    try clear c2
    try clear p2
    try clear c3
    try clear c4
    try clear c4b0
    try clear c4b1
    try clear c5
    try clear c6
    try clear c6b0
    try clear c8
    try clear c9
    try clear c9b0
    try clear c10
    try clear c15
    try clear c18
    try clear c21
    try clear c22
    try clear c23
    try clear c24
    try clear c25
    try clear c26
    try clear c27
    try clear c28
    try clear c29
    try clear c30
    try clear c31
    try clear c42
    try clear c45
    try clear c46
    try clear c46b0
    try clear c46b1
    try clear c47
    try clear c51
    try clear c55
    try clear c59
    try clear c62
    try clear c65
    try clear c68
    try clear c84
    try clear c84b0
    try clear c86
    try clear c87
    try clear c87b0
    try clear c87b1
    try clear c88
    try clear c92
    try clear c96
    try clear hcz32_0
    try clear hcz32_1
    try clear hcz43_0
    try clear hcz43_1
    try clear hcz48_0
    try clear hcz48_1
    try clear hcz49_0
    try clear hcz49_1
    try clear hcz52_0
    try clear hcz52_1
    try clear hcz53_0
    try clear hcz53_1
    try clear hcz56_0
    try clear hcz56_1
    try clear hcz57_0
    try clear hcz57_1
    try clear hcz89_0
    try clear hcz89_1
    try clear hcz90_0
    try clear hcz90_1
    try clear hcz93_0
    try clear hcz93_1
    try clear hcz94_0
    try clear hcz94_1
    try clear hcz97_0
    try clear hcz97_1
    try clear hcz98_0
    try clear hcz98_1
    try clear hfz32_0
    try clear hfz32_1
    try clear hfz43_0
    try clear hfz43_1
    try clear hfz48_0
    try clear hfz48_1
    try clear hfz49_0
    try clear hfz49_1
    try clear hfz52_0
    try clear hfz52_1
    try clear hfz53_0
    try clear hfz53_1
    try clear hfz56_0
    try clear hfz56_1
    try clear hfz57_0
    try clear hfz57_1
    try clear hfz89_0
    try clear hfz89_1
    try clear hfz90_0
    try clear hfz90_1
    try clear hfz93_0
    try clear hfz93_1
    try clear hfz94_0
    try clear hfz94_1
    try clear hfz97_0
    try clear hfz97_1
    try clear hfz98_0
    try clear hfz98_1
    try clear p2
    obtain ⟨kq, x116_71, rfl, HA, HJ71, HO_316000, HO_332000, BK315, BK331, HB⟩ := hcut
    cases kq with
    | zero => exact absurd HA.out (by simp [laws_FnExactRosterOf.j1])
    | succ kj71 =>
     have H := HA.out
     clear HA
     simp only [laws_FnExactRosterOf.j1] at H
     by_cases c100 : x116_71 = true
     ·subst c100
      have H1 : (some false) = some r := by rw [if_pos rfl] at H; exact H
      clear H
      have H := H1
      clear H1
      obtain rfl := Option.some.inj H
      go_wp2
      go_ret
      exact zH16
     replace c100 := Bool.eq_false_iff.mpr c100
     subst c100
     have H1 : ((laws_markRoster.f kj71 t325 t328 1).bind fun bt351 => ((laws_heldRoster.f kj71 bt351.2 t328 1).bind fun t353 => (if t353 < 0 then (some false) else (if t353 = bt351.1 then ((laws_toShiftS.f kj71 l0).bind fun t354 => ((laws_toWorkerS.f kj71 l1).bind fun t357 => ((laws_toIntS.f kj71 l2).bind fun t360 => ((impl_RosterOf.f kj71 t354 t357 t360).bind fun bt363 => ((laws_eqRoster.f kj71 bt363.1 bt363.2.1 t309 t312).bind fun t370 => (if t370 = true then (if bt363.2.2.1 = t313 then (laws_FnExactRosterOf.j2 kj71 bt351.1 (bt363.2.2.2 != t314) bt351.2 t328) else (laws_FnExactRosterOf.j2 kj71 bt351.1 true bt351.2 t328)) else (laws_FnExactRosterOf.j2 kj71 bt351.1 true bt351.2 t328))))))) else (some false))))) = some r := by rw [if_neg (show ¬ (false = true) by decide)] at H; exact H
     clear H
     have H := H1
     clear H1
     replace H := Option.bind_eq_some_iff.mp H
     obtain ⟨⟨t351, t352⟩, A1010, H⟩ := H
     replace H : ((laws_heldRoster.f kj71 t352 t328 1).bind fun t353 => (if t353 < 0 then (some false) else (if t353 = t351 then ((laws_toShiftS.f kj71 l0).bind fun t354 => ((laws_toWorkerS.f kj71 l1).bind fun t357 => ((laws_toIntS.f kj71 l2).bind fun t360 => ((impl_RosterOf.f kj71 t354 t357 t360).bind fun bt363 => ((laws_eqRoster.f kj71 bt363.1 bt363.2.1 t309 t312).bind fun t370 => (if t370 = true then (if bt363.2.2.1 = t313 then (laws_FnExactRosterOf.j2 kj71 t351 (bt363.2.2.2 != t314) t352 t328) else (laws_FnExactRosterOf.j2 kj71 t351 true t352 t328)) else (laws_FnExactRosterOf.j2 kj71 t351 true t352 t328))))))) else (some false)))) = some r := H
     have A101 := zb A1010
     clear A1010
     replace H := Option.bind_eq_some_iff.mp H
     obtain ⟨t353, A1020, H⟩ := H
     replace H : (if t353 < 0 then (some false) else (if t353 = t351 then ((laws_toShiftS.f kj71 l0).bind fun t354 => ((laws_toWorkerS.f kj71 l1).bind fun t357 => ((laws_toIntS.f kj71 l2).bind fun t360 => ((impl_RosterOf.f kj71 t354 t357 t360).bind fun bt363 => ((laws_eqRoster.f kj71 bt363.1 bt363.2.1 t309 t312).bind fun t370 => (if t370 = true then (if bt363.2.2.1 = t313 then (laws_FnExactRosterOf.j2 kj71 t351 (bt363.2.2.2 != t314) t352 t328) else (laws_FnExactRosterOf.j2 kj71 t351 true t352 t328)) else (laws_FnExactRosterOf.j2 kj71 t351 true t352 t328))))))) else (some false))) = some r := H
     have A102 := zb A1020
     clear A1020
     by_cases c103 : t353 < 0
     ·rw [if_pos c103] at H
      have c103b0 := decide_eq_true c103
      clear c103
      obtain rfl := Option.some.inj H
      have hnb104 := NB331_315.out
      have hnc104 := NB315_331.out
      have hcz105_0 : wc.cell? ⟨gb331, 0, none⟩ = some (.slice Ao41 t325.length co41) := (zg BK331.out 0).trans rfl
      have hcz105_1 : wc.cell? ⟨gb331, 1, none⟩ = some (.int .i64 t328) := (zg BK331.out 1).trans rfl
      have hfz105_0 := zf BK331.out 0
      have hfz105_1 := zf BK331.out 1
      go_wp2_with (first | ((with_reducible refine gate_callee (f := 32) rfl ?_); refine goesL_ (some 119) rfl rfl Try.func32 zG96 rfl #[.agg #[.slice Ao41 t325.length co41, .int .i64 t328], .int .i64 1] rfl zG65 ?_; (with_reducible refine (laws_markRoster.calls kj71 (fun k_ => some k_ = (.slice Ao41 t325.length co41 : Value).ownBlock) (.slice Ao41 t325.length co41) t325 t328 1 t351 t352 w _ ?side1 ?side2 A101.out).mono ?_); (case side1 => exact zH33); (case side2 => exact zat rfl HO_332000.out); rintro e w106 ⟨rfl, hy0, hb, hkp⟩; refine ⟨_, rfl, ?_⟩; have n_ := zA_ (zb (zx (ok' := fun k_ => some k_ ≠ (.slice Ao41 t325.length co41 : Value).ownBlock) (zao (HO_316000.out) hkp (fun k_ hk_ hs_ => (hk_) hs_)) (fun k_ hk_ => hk_.1))) (zA_ (zb (zau rfl hy0 (fun k_ e_ => HO_332000.out.1 k_ e_))) (zA_ (zb (zav zG77 hkp (fun hs_ => (fun e_ => (zay HO_332000.out BK315.out (by decide)) e_) hs_))) (zA_ (zb (zav zG78 hkp (fun hs_ => (fun e_ => (zay HO_332000.out BK331.out (by decide)) e_) hs_))) (zb (hb))))); clear HO_316000 HO_332000 BK315 BK331 HB; obtain ⟨HO_316000, HO_332000, BK315, BK331, HB⟩ := n_; (try clear hb); (try clear hkp); (try clear hy0); have hcz107_0 : w106.cell? ⟨gb331, 0, none⟩ = some (.slice Ao41 t325.length co41) := (zg BK331.out 0).trans rfl; have hcz107_1 : w106.cell? ⟨gb331, 1, none⟩ = some (.int .i64 t328) := (zg BK331.out 1).trans rfl; have hfz107_0 := zf BK331.out 0; have hfz107_1 := zf BK331.out 1) | ((with_reducible refine gate_callee (f := 33) rfl ?_); refine goesL_ (some 122) rfl rfl Try.func33 zG96 rfl #[.agg #[.slice Ao41 t352.length co41, .int .i64 t328], .int .i64 1] rfl zK149 ?_; (with_reducible refine (laws_heldRoster.calls kj71 _ _ t352 t328 1 t353 _ ?side1 ?side2 A102.out).mono ?_); (case side1 => exact zH30); (case side2 => exact zH72); rintro e w108 ⟨rfl, hb⟩; refine ⟨_, rfl, ?_⟩; have n_ := zA_ (zb (zp zG80 hb)) (zA_ (zb (zp zG81 hb)) (zA_ (zb (zu (g := gb315) (o := .cells #[.slice Ao31 t309.length co31, .int .i64 t312] 50 (0, 0)) zG77 hb)) (zA_ (zb (zu (g := gb331) (o := .cells #[.slice Ao41 t325.length co41, .int .i64 t328] 50 (0, 0)) zG78 hb)) (zb (zq zG64 hb))))); clear HO_316000 HO_332000 BK315 BK331 HB; obtain ⟨HO_316000, HO_332000, BK315, BK331, HB⟩ := n_; (try clear hb)))
      go_ret
      exact zH16
     rw [if_neg c103] at H
     have c103b0 := decide_eq_false c103
     clear c103
     by_cases c109 : t353 = t351
     rotate_left
     ·rw [if_neg c109] at H
      have c109b0 : (t353 == t351) = false := beq_eq_false_iff_ne.mpr c109
      have c109b1 : (t353 != t351) = true := bne_iff_ne.mpr c109
      obtain rfl := Option.some.inj H
      have hnb169 := NB331_315.out
      have hnc169 := NB315_331.out
      have hcz170_0 : wc.cell? ⟨gb331, 0, none⟩ = some (.slice Ao41 t325.length co41) := (zg BK331.out 0).trans rfl
      have hcz170_1 : wc.cell? ⟨gb331, 1, none⟩ = some (.int .i64 t328) := (zg BK331.out 1).trans rfl
      have hfz170_0 := zf BK331.out 0
      have hfz170_1 := zf BK331.out 1
      go_wp2_with (first | ((with_reducible refine gate_callee (f := 32) rfl ?_); refine goesL_ (some 119) rfl rfl Try.func32 zG96 rfl #[.agg #[.slice Ao41 t325.length co41, .int .i64 t328], .int .i64 1] rfl zG65 ?_; (with_reducible refine (laws_markRoster.calls kj71 (fun k_ => some k_ = (.slice Ao41 t325.length co41 : Value).ownBlock) (.slice Ao41 t325.length co41) t325 t328 1 t351 t352 w _ ?side1 ?side2 A101.out).mono ?_); (case side1 => exact zH33); (case side2 => exact zat rfl HO_332000.out); rintro e w171 ⟨rfl, hy0, hb, hkp⟩; refine ⟨_, rfl, ?_⟩; have n_ := zA_ (zb (zx (ok' := fun k_ => some k_ ≠ (.slice Ao41 t325.length co41 : Value).ownBlock) (zao (HO_316000.out) hkp (fun k_ hk_ hs_ => (hk_) hs_)) (fun k_ hk_ => hk_.1))) (zA_ (zb (zau rfl hy0 (fun k_ e_ => HO_332000.out.1 k_ e_))) (zA_ (zb (zav zG77 hkp (fun hs_ => (fun e_ => (zay HO_332000.out BK315.out (by decide)) e_) hs_))) (zA_ (zb (zav zG78 hkp (fun hs_ => (fun e_ => (zay HO_332000.out BK331.out (by decide)) e_) hs_))) (zb (hb))))); clear HO_316000 HO_332000 BK315 BK331 HB; obtain ⟨HO_316000, HO_332000, BK315, BK331, HB⟩ := n_; (try clear hb); (try clear hkp); (try clear hy0); have hcz172_0 : w171.cell? ⟨gb331, 0, none⟩ = some (.slice Ao41 t325.length co41) := (zg BK331.out 0).trans rfl; have hcz172_1 : w171.cell? ⟨gb331, 1, none⟩ = some (.int .i64 t328) := (zg BK331.out 1).trans rfl; have hfz172_0 := zf BK331.out 0; have hfz172_1 := zf BK331.out 1) | ((with_reducible refine gate_callee (f := 33) rfl ?_); refine goesL_ (some 122) rfl rfl Try.func33 zG96 rfl #[.agg #[.slice Ao41 t352.length co41, .int .i64 t328], .int .i64 1] rfl zK149 ?_; (with_reducible refine (laws_heldRoster.calls kj71 _ _ t352 t328 1 t353 _ ?side1 ?side2 A102.out).mono ?_); (case side1 => exact zH30); (case side2 => exact zH72); rintro e w173 ⟨rfl, hb⟩; refine ⟨_, rfl, ?_⟩; have n_ := zA_ (zb (zp zG80 hb)) (zA_ (zb (zp zG81 hb)) (zA_ (zb (zu (g := gb315) (o := .cells #[.slice Ao31 t309.length co31, .int .i64 t312] 50 (0, 0)) zG77 hb)) (zA_ (zb (zu (g := gb331) (o := .cells #[.slice Ao41 t325.length co41, .int .i64 t328] 50 (0, 0)) zG78 hb)) (zb (zq zG64 hb))))); clear HO_316000 HO_332000 BK315 BK331 HB; obtain ⟨HO_316000, HO_332000, BK315, BK331, HB⟩ := n_; (try clear hb)))
      go_ret
      exact zH16
     rw [if_pos c109] at H
     have c109b0 : (t353 == t351) = true := beq_iff_eq.mpr c109
     have c109b1 : (t353 != t351) = false := bne_eq_false_iff_eq.mpr c109
     clear c109
     replace H := Option.bind_eq_some_iff.mp H
     obtain ⟨t354, A1100, H⟩ := H
     replace H : ((laws_toWorkerS.f kj71 l1).bind fun t357 => ((laws_toIntS.f kj71 l2).bind fun t360 => ((impl_RosterOf.f kj71 t354 t357 t360).bind fun bt363 => ((laws_eqRoster.f kj71 bt363.1 bt363.2.1 t309 t312).bind fun t370 => (if t370 = true then (if bt363.2.2.1 = t313 then (laws_FnExactRosterOf.j2 kj71 t351 (bt363.2.2.2 != t314) t352 t328) else (laws_FnExactRosterOf.j2 kj71 t351 true t352 t328)) else (laws_FnExactRosterOf.j2 kj71 t351 true t352 t328)))))) = some r := H
     have A110 := zb A1100
     clear A1100
     replace H := Option.bind_eq_some_iff.mp H
     obtain ⟨t357, A1110, H⟩ := H
     replace H : ((laws_toIntS.f kj71 l2).bind fun t360 => ((impl_RosterOf.f kj71 t354 t357 t360).bind fun bt363 => ((laws_eqRoster.f kj71 bt363.1 bt363.2.1 t309 t312).bind fun t370 => (if t370 = true then (if bt363.2.2.1 = t313 then (laws_FnExactRosterOf.j2 kj71 t351 (bt363.2.2.2 != t314) t352 t328) else (laws_FnExactRosterOf.j2 kj71 t351 true t352 t328)) else (laws_FnExactRosterOf.j2 kj71 t351 true t352 t328))))) = some r := H
     have A111 := zb A1110
     clear A1110
     replace H := Option.bind_eq_some_iff.mp H
     obtain ⟨t360, A1120, H⟩ := H
     replace H : ((impl_RosterOf.f kj71 t354 t357 t360).bind fun bt363 => ((laws_eqRoster.f kj71 bt363.1 bt363.2.1 t309 t312).bind fun t370 => (if t370 = true then (if bt363.2.2.1 = t313 then (laws_FnExactRosterOf.j2 kj71 t351 (bt363.2.2.2 != t314) t352 t328) else (laws_FnExactRosterOf.j2 kj71 t351 true t352 t328)) else (laws_FnExactRosterOf.j2 kj71 t351 true t352 t328)))) = some r := H
     have A112 := zb A1120
     clear A1120
     replace H := Option.bind_eq_some_iff.mp H
     obtain ⟨⟨t363, t366, t367, t368⟩, A1130, H⟩ := H
     replace H : ((laws_eqRoster.f kj71 t363 t366 t309 t312).bind fun t370 => (if t370 = true then (if t367 = t313 then (laws_FnExactRosterOf.j2 kj71 t351 (t368 != t314) t352 t328) else (laws_FnExactRosterOf.j2 kj71 t351 true t352 t328)) else (laws_FnExactRosterOf.j2 kj71 t351 true t352 t328))) = some r := H
     have A113 := zb A1130
     clear A1130
     have HC114 := zb H
     clear H
     have hnb115 := NB331_315.out
     have hnc115 := NB315_331.out
     have hcz116_0 : wc.cell? ⟨gb331, 0, none⟩ = some (.slice Ao41 t325.length co41) := (zg BK331.out 0).trans rfl
     have hcz116_1 : wc.cell? ⟨gb331, 1, none⟩ = some (.int .i64 t328) := (zg BK331.out 1).trans rfl
     have hfz116_0 := zf BK331.out 0
     have hfz116_1 := zf BK331.out 1
     go_upto_region 38 with (first | ((with_reducible refine gate_callee (f := 32) rfl ?_); refine goesL_ (some 119) rfl rfl Try.func32 zG96 rfl #[.agg #[.slice Ao41 t325.length co41, .int .i64 t328], .int .i64 1] rfl zG65 ?_; (with_reducible refine (laws_markRoster.calls kj71 (fun k_ => some k_ = (.slice Ao41 t325.length co41 : Value).ownBlock) (.slice Ao41 t325.length co41) t325 t328 1 t351 t352 w _ ?side1 ?side2 A101.out).mono ?_); (case side1 => exact zH33); (case side2 => exact zat rfl HO_332000.out); rintro e w117 ⟨rfl, hy0, hb, hkp⟩; refine ⟨_, rfl, ?_⟩; have n_ := zA_ (zb (zx (ok' := fun k_ => some k_ ≠ (.slice Ao41 t325.length co41 : Value).ownBlock) (zao (HO_316000.out) hkp (fun k_ hk_ hs_ => (hk_) hs_)) (fun k_ hk_ => hk_.1))) (zA_ (zb (zau rfl hy0 (fun k_ e_ => HO_332000.out.1 k_ e_))) (zA_ (zb (zav zG77 hkp (fun hs_ => (fun e_ => (zay HO_332000.out BK315.out (by decide)) e_) hs_))) (zA_ (zb (zav zG78 hkp (fun hs_ => (fun e_ => (zay HO_332000.out BK331.out (by decide)) e_) hs_))) (zb (hb))))); clear HO_316000 HO_332000 BK315 BK331 HB; obtain ⟨HO_316000, HO_332000, BK315, BK331, HB⟩ := n_; (try clear hb); (try clear hkp); (try clear hy0); have hcz118_0 : w117.cell? ⟨gb331, 0, none⟩ = some (.slice Ao41 t325.length co41) := (zg BK331.out 0).trans rfl; have hcz118_1 : w117.cell? ⟨gb331, 1, none⟩ = some (.int .i64 t328) := (zg BK331.out 1).trans rfl; have hfz118_0 := zf BK331.out 0; have hfz118_1 := zf BK331.out 1) | ((with_reducible refine gate_callee (f := 33) rfl ?_); refine goesL_ (some 122) rfl rfl Try.func33 zG96 rfl #[.agg #[.slice Ao41 t352.length co41, .int .i64 t328], .int .i64 1] rfl zK149 ?_; (with_reducible refine (laws_heldRoster.calls kj71 _ _ t352 t328 1 t353 _ ?side1 ?side2 A102.out).mono ?_); (case side1 => exact zH30); (case side2 => exact zH72); rintro e w119 ⟨rfl, hb⟩; refine ⟨_, rfl, ?_⟩; have n_ := zA_ (zb (zp zG80 hb)) (zA_ (zb (zp zG81 hb)) (zA_ (zb (zu (g := gb315) (o := .cells #[.slice Ao31 t309.length co31, .int .i64 t312] 50 (0, 0)) zG77 hb)) (zA_ (zb (zu (g := gb331) (o := .cells #[.slice Ao41 t325.length co41, .int .i64 t328] 50 (0, 0)) zG78 hb)) (zb (zq zG64 hb))))); clear HO_316000 HO_332000 BK315 BK331 HB; obtain ⟨HO_316000, HO_332000, BK315, BK331, HB⟩ := n_; (try clear hb)) | ((with_reducible refine gate_callee (f := 24) rfl ?_); refine goesL_ (some 130) rfl rfl Try.func24 zG96 rfl #[.slice A0 l0.length c0] rfl zG65 ?_; (with_reducible refine (laws_toShiftS.calls kj71 _ _ l0 t354 _ ?side1 ?side2 A110.out).mono ?_); (case side1 => exact zH50); (case side2 => exact HC0.out); rintro e w120 ⟨v355, rfl, ho0, hb⟩; refine ⟨_, rfl, ?_⟩; have n_ := zA_ (zb (zp zG80 hb)) (zA_ (zb (zp zG81 hb)) (zA_ (zb (zag ho0 (zo zG64))) (zA_ (zb (zu (g := gb315) (o := .cells #[.slice Ao31 t309.length co31, .int .i64 t312] 50 (0, 0)) zG77 hb)) (zA_ (zb (zu (g := gb331) (o := .cells #[.slice Ao41 t325.length co41, .int .i64 t328] 50 (0, 0)) zG78 hb)) (zb (zq zG64 hb)))))); clear HO_316000 HO_332000 BK315 BK331 HB; obtain ⟨HO_316000, HO_332000, HO356, BK315, BK331, HB⟩ := n_; (try clear hb); (try clear ho0)) | ((with_reducible refine gate_callee (f := 25) rfl ?_); refine goesL_ (some 132) rfl rfl Try.func25 zG96 rfl #[.slice A1 l1.length c1] rfl zG65 ?_; (with_reducible refine (laws_toWorkerS.calls kj71 _ _ l1 t357 _ ?side1 ?side2 A111.out).mono ?_); (case side1 => exact zH49); (case side2 => exact HC1.out); rintro e w121 ⟨v358, rfl, ho0, hb⟩; refine ⟨_, rfl, ?_⟩; have n_ := zA_ (zb (zp zG80 hb)) (zA_ (zb (zp zG81 hb)) (zA_ (zb (zp zK195 hb)) (zA_ (zb (zbf ho0 (zo zG64))) (zA_ (zb (zu (g := gb315) (o := .cells #[.slice Ao31 t309.length co31, .int .i64 t312] 50 (0, 0)) zG77 hb)) (zA_ (zb (zu (g := gb331) (o := .cells #[.slice Ao41 t325.length co41, .int .i64 t328] 50 (0, 0)) zG78 hb)) (zb (zq zG64 hb))))))); clear HO_316000 HO_332000 HO356 BK315 BK331 HB; obtain ⟨HO_316000, HO_332000, HO356, HO359, BK315, BK331, HB⟩ := n_; (try clear hb); (try clear ho0)) | ((with_reducible refine gate_callee (f := 10) rfl ?_); refine goesL_ (some 134) rfl rfl Try.func10 zG96 rfl #[.slice A2 l2.length c2] rfl zG65 ?_; (with_reducible refine (laws_toIntS.calls kj71 _ _ l2 t360 _ ?side1 ?side2 A112.out).mono ?_); (case side1 => exact zH48); (case side2 => exact HC2.out); rintro e w122 ⟨v361, rfl, ho0, hb⟩; refine ⟨_, rfl, ?_⟩; have n_ := zA_ (zb (zai zG80 (zal ho0) hb)) (zA_ (zb (zai zG81 (zal ho0) hb)) (zA_ (zb (zp zK195 hb)) (zA_ (zb (zad zK187 hb)) (zA_ (zb (zag (zan (zan ho0 (zaq zG80)) (zaq zG81)) (zo zG64))) (zA_ (zb (zu (g := gb315) (o := .cells #[.slice Ao31 t309.length co31, .int .i64 t312] 50 (0, 0)) zG77 hb)) (zA_ (zb (zu (g := gb331) (o := .cells #[.slice Ao41 t325.length co41, .int .i64 t328] 50 (0, 0)) zG78 hb)) (zb (zq zG64 hb)))))))); clear HO_316000 HO_332000 HO356 HO359 BK315 BK331 HB; obtain ⟨HO_316000, HO_332000, HO356, HO359, HO362, BK315, BK331, HB⟩ := n_; (try clear hb); (try clear ho0); obtain ⟨Ao123, co123, eo123⟩ := zah HO356.out; subst eo123; obtain ⟨Ao124, co124, eo124⟩ := zbg HO359.out; subst eo124; obtain ⟨Ao125, co125, eo125⟩ := zah HO362.out; subst eo125) | ((with_reducible refine gate_callee (f := 26) rfl ?_); refine goesL_ (some 135) rfl rfl Try.func26 zG96 rfl #[.slice Ao123 t354.length co123, .slice Ao124 t357.length co124, .slice Ao125 t360.length co125] rfl zG65 ?_; (with_reducible refine (impl_RosterOf.calls kj71 _ _ t354 _ _ t357 _ _ t360 t363 t366 t367 t368 _ ?side1 ?side2 ?side3 ?side4 ?side5 ?side6 A113.out).mono ?_); (case side1 => repeat (first | exact (Kd.R_reads' HO356.out).2.2 | (with_reducible refine zr ?_ _) | (with_reducible refine zs ?_ _) | (with_reducible refine zt ?_))); (case side2 => exact (Kd.R_reads' HO356.out).2.1); (case side3 => repeat (first | exact (zak HO359.out).2.2 | (with_reducible refine zr ?_ _) | (with_reducible refine zs ?_ _) | (with_reducible refine zt ?_))); (case side4 => exact (zak HO359.out).2.1); (case side5 => repeat (first | exact (Kd.R_reads' HO362.out).2.2 | (with_reducible refine zr ?_ _) | (with_reducible refine zs ?_ _) | (with_reducible refine zt ?_))); (case side6 => exact (Kd.R_reads' HO362.out).2.1); rintro e w126 ⟨v364, rfl, ho0, hb⟩; refine ⟨_, rfl, ?_⟩; have n_ := zA_ (zb (zai zG80 (zal ho0) hb)) (zA_ (zb (zai zG81 (zal ho0) hb)) (zA_ (zb (zp zK195 hb)) (zA_ (zb (zad zK187 hb)) (zA_ (zb (zai zK196 (zal ho0) hb)) (zA_ (zb (zag (zan (zan (zan ho0 (zaq zG80)) (zaq zG81)) (zaq zK196)) (zo zG64))) (zA_ (zb (zu (g := gb315) (o := .cells #[.slice Ao31 t309.length co31, .int .i64 t312] 50 (0, 0)) zG77 hb)) (zA_ (zb (zu (g := gb331) (o := .cells #[.slice Ao41 t325.length co41, .int .i64 t328] 50 (0, 0)) zG78 hb)) (zb (zq zG64 hb))))))))); clear HO_316000 HO_332000 HO356 HO359 HO362 BK315 BK331 HB; obtain ⟨HO_316000, HO_332000, HO356, HO359, HO362, HO365, BK315, BK331, HB⟩ := n_; (try clear hb); (try clear ho0)) | ((with_reducible refine gate_dst (N := 20) rfl ?_); refine box_event ?hg (N := 20) ?hd (cs := #[.slice none 0 0, .int .i64 0]) (t := 50) ?hr ?_; (case hd => rfl); (case hg => rfl); (case hr => exact zH100); intro gb369 hg w127 hbox hb; have n_ := zA_ (zb (zp zG80 hb)) (zA_ (zb (zp zG81 hb)) (zA_ (zb (zp zK195 hb)) (zA_ (zb (zad zK187 hb)) (zA_ (zb (zp zK196 hb)) (zA_ (zb (zp (by (with_reducible repeat (first | apply zl | apply zm | apply zn)); exact HO365.out) hb)) (zA_ (zb (zu (g := gb315) (o := .cells #[.slice Ao31 t309.length co31, .int .i64 t312] 50 (0, 0)) zG77 hb)) (zA_ (zb (zu (g := gb331) (o := .cells #[.slice Ao41 t325.length co41, .int .i64 t328] 50 (0, 0)) zG78 hb)) (zA_ (zb (zq zG64 hb)) (zA_ (zb (hbox)) (zA_ (zb ((by rw [hg]; exact (zo zG64) : w.heap.size ≤ gb369))) (zA_ (zb ((by rw [hg]; exact (zo zG64) : w.heap.size ≤ gb369))) (zA_ (zb ((by rw [hg]; exact Nat.ne_of_lt (zae (g := gb315) (o := .cells #[.slice Ao31 t309.length co31, .int .i64 t312] 50 (0, 0)) zG77) : gb315 ≠ gb369))) (zA_ (zb ((by rw [hg]; exact Nat.ne_of_gt (zae (g := gb315) (o := .cells #[.slice Ao31 t309.length co31, .int .i64 t312] 50 (0, 0)) zG77) : gb369 ≠ gb315))) (zA_ (zb ((by rw [hg]; exact Nat.ne_of_lt (zae (g := gb331) (o := .cells #[.slice Ao41 t325.length co41, .int .i64 t328] 50 (0, 0)) zG78) : gb331 ≠ gb369))) (zb ((by rw [hg]; exact Nat.ne_of_gt (zae (g := gb331) (o := .cells #[.slice Ao41 t325.length co41, .int .i64 t328] 50 (0, 0)) zG78) : gb369 ≠ gb331))))))))))))))))); clear HO_316000 HO_332000 HO356 HO359 HO362 HO365 BK315 BK331 HB; obtain ⟨HO_316000, HO_332000, HO356, HO359, HO362, HO365, BK315, BK331, HB, BK369, GW369, GE369, NB315_369, NB369_315, NB331_369, NB369_331⟩ := n_; clear hb hbox hg; obtain ⟨Ao128, co128, eo128⟩ := zah HO365.out; subst eo128; have hnb129 := NB369_315.out; have hnc129 := NB315_369.out; have hnb130 := NB369_331.out; have hnc130 := NB331_369.out; have hcz131_0 : w127.cell? ⟨gb369, 0, none⟩ = some (.slice none 0 0) := (zg BK369.out 0).trans rfl; have hcz131_1 : w127.cell? ⟨gb369, 1, none⟩ = some (.int .i64 0) := (zg BK369.out 1).trans rfl; have hfz131_0 := zf BK369.out 0; have hfz131_1 := zf BK369.out 1))
     (try simp only [Act.put, List.setIfInBounds_toArray, List.set_cons_zero, List.set_cons_succ])
     go_cut [152] (fun v152 wc => ∃ (kq : Nat) (x152_113 : Bool), v152 = .bool x152_113 ∧ Aside0 (laws_FnExactRosterOf.j2 kq t351 x152_113 t352 t328 = some r) ∧ Aside0 (kq ≤ kj71) ∧ Aside0 (Kd.R (Kd.int .i64) 3 wc w.heap.size (fun k_ => some k_ ≠ ((.slice Ao41 t325.length co41) : Value).ownBlock ∧ some k_ ≠ ((.slice Ao128 t363.length co128) : Value).ownBlock) (.slice Ao31 t309.length co31) t309) ∧ Aside0 (Kd.R (Kd.int .i64) 3 wc w.heap.size (fun k_ => some k_ ≠ ((.slice Ao31 t309.length co31) : Value).ownBlock ∧ some k_ ≠ ((.slice Ao128 t363.length co128) : Value).ownBlock) (.slice Ao41 t325.length co41) t352) ∧ Aside0 (Kd.R (Kd.int .i64) 3 wc w.heap.size (fun k_ => some k_ ≠ ((.slice Ao31 t309.length co31) : Value).ownBlock ∧ some k_ ≠ ((.slice Ao41 t325.length co41) : Value).ownBlock) (.slice Ao128 t363.length co128) t363) ∧ Aside0 (wc.heap[gb315]? = some (.cells #[(.slice Ao31 t309.length co31), .int .i64 t312] 50 (0, 0))) ∧ Aside0 (wc.heap[gb331]? = some (.cells #[(.slice Ao41 t325.length co41), .int .i64 t328] 50 (0, 0))) ∧ Aside0 (wc.heap[gb369]? = some (.cells #[(.slice Ao128 t363.length co128), .int .i64 t366] 50 (0, 0))) ∧ Aside0 (Below w.heap.size w wc))
     case first =>
      have H := HC114.out
      clear HC114
      replace H := Option.bind_eq_some_iff.mp H
      obtain ⟨t370, A1320, H⟩ := H
      replace H : (if t370 = true then (if t367 = t313 then (laws_FnExactRosterOf.j2 kj71 t351 (t368 != t314) t352 t328) else (laws_FnExactRosterOf.j2 kj71 t351 true t352 t328)) else (laws_FnExactRosterOf.j2 kj71 t351 true t352 t328)) = some r := H
      have A132 := zb A1320
      clear A1320
      by_cases c133 : t370 = true
      rotate_left
      ·replace c133 := Bool.eq_false_iff.mpr c133
       subst c133
       have H1 : (laws_FnExactRosterOf.j2 kj71 t351 true t352 t328) = some r := by rw [if_neg (show ¬ (false = true) by decide)] at H; exact H
       clear H
       have H := H1
       clear H1
       have H' := zb H
       clear H
       have hnb147 := NB369_315.out
       have hnc147 := NB315_369.out
       have hnb148 := NB369_331.out
       have hnc148 := NB331_369.out
       have hcz149_0 : w127.cell? ⟨gb369, 0, none⟩ = some (.slice none 0 0) := (zg BK369.out 0).trans rfl
       have hcz149_1 : w127.cell? ⟨gb369, 1, none⟩ = some (.int .i64 0) := (zg BK369.out 1).trans rfl
       have hfz149_0 := zf BK369.out 0
       have hfz149_1 := zf BK369.out 1
       have hnb150 := NB315_331.out
       have hnc150 := NB331_315.out
       have hcz151_0 : w127.cell? ⟨gb315, 0, none⟩ = some (.slice Ao31 t309.length co31) := (zg BK315.out 0).trans rfl
       have hcz151_1 : w127.cell? ⟨gb315, 1, none⟩ = some (.int .i64 t312) := (zg BK315.out 1).trans rfl
       have hfz151_0 := zf BK315.out 0
       have hfz151_1 := zf BK315.out 1
       go_wp2_with (first | ((with_reducible refine gate_callee (f := 27) rfl ?_); refine goesL_ (some 141) rfl rfl Try.func27 zG96 rfl #[.agg #[.slice Ao128 t363.length co128, .int .i64 t366], .agg #[.slice Ao31 t309.length co31, .int .i64 t312]] rfl zG65 ?_; (with_reducible refine (laws_eqRoster.calls kj71 _ _ t363 t366 _ _ t309 t312 false _ ?side1 ?side2 ?side3 ?side4 A132.out).mono ?_); (case side1 => exact zH3); (case side2 => exact (Kd.R_reads' HO365.out).2.1); (case side3 => exact zH4); (case side4 => exact zH102); rintro e w152 ⟨rfl, hb⟩; refine ⟨_, rfl, ?_⟩; have n_ := zA_ (zb (zp zK135 hb)) (zA_ (zb (zp zK136 hb)) (zA_ (zb (zp zK139 hb)) (zA_ (zb (zad zK134 hb)) (zA_ (zb (zp zK140 hb)) (zA_ (zb (zp zK141 hb)) (zA_ (zb (zu (g := gb315) (o := .cells #[.slice Ao31 t309.length co31, .int .i64 t312] 50 (0, 0)) zK114 hb)) (zA_ (zb (zu (g := gb331) (o := .cells #[.slice Ao41 t325.length co41, .int .i64 t328] 50 (0, 0)) zK115 hb)) (zA_ (zb (zu (g := gb369) (o := .cells #[.slice Ao128 t363.length co128, .int .i64 t366] 50 (0, 0)) zK109 hb)) (zb (zq zK151 hb)))))))))); clear HO_316000 HO_332000 HO356 HO359 HO362 HO365 BK315 BK331 BK369 HB; obtain ⟨HO_316000, HO_332000, HO356, HO359, HO362, HO365, BK315, BK331, BK369, HB⟩ := n_; (try clear hb); (try clear hk)))
       go_meet
       case rel => exact ⟨_, (true), zG95, H', ⟨zH93⟩, ⟨zH66⟩, ⟨zH67⟩, ⟨zH65⟩, ⟨zH87⟩, ⟨zH88⟩, ⟨zH83⟩, ⟨zH25⟩⟩
      subst c133
      have H1 : (if t367 = t313 then (laws_FnExactRosterOf.j2 kj71 t351 (t368 != t314) t352 t328) else (laws_FnExactRosterOf.j2 kj71 t351 true t352 t328)) = some r := by rw [if_pos rfl] at H; exact H
      clear H
      have H := H1
      clear H1
      by_cases c134 : t367 = t313
      rotate_left
      ·rw [if_neg c134] at H
       have c134b0 : (t367 == t313) = false := beq_eq_false_iff_ne.mpr c134
       have c134b1 : (t367 != t313) = true := bne_iff_ne.mpr c134
       (first | rw [c134b0] | (simp only [i64_w, i32_w]; rw [c134b0]) | skip)
       have H' := zb H
       clear H
       have hnb141 := NB369_315.out
       have hnc141 := NB315_369.out
       have hnb142 := NB369_331.out
       have hnc142 := NB331_369.out
       have hcz143_0 : w127.cell? ⟨gb369, 0, none⟩ = some (.slice none 0 0) := (zg BK369.out 0).trans rfl
       have hcz143_1 : w127.cell? ⟨gb369, 1, none⟩ = some (.int .i64 0) := (zg BK369.out 1).trans rfl
       have hfz143_0 := zf BK369.out 0
       have hfz143_1 := zf BK369.out 1
       have hnb144 := NB315_331.out
       have hnc144 := NB331_315.out
       have hcz145_0 : w127.cell? ⟨gb315, 0, none⟩ = some (.slice Ao31 t309.length co31) := (zg BK315.out 0).trans rfl
       have hcz145_1 : w127.cell? ⟨gb315, 1, none⟩ = some (.int .i64 t312) := (zg BK315.out 1).trans rfl
       have hfz145_0 := zf BK315.out 0
       have hfz145_1 := zf BK315.out 1
       go_wp2_with (first | ((with_reducible refine gate_callee (f := 27) rfl ?_); refine goesL_ (some 141) rfl rfl Try.func27 zG96 rfl #[.agg #[.slice Ao128 t363.length co128, .int .i64 t366], .agg #[.slice Ao31 t309.length co31, .int .i64 t312]] rfl zG65 ?_; (with_reducible refine (laws_eqRoster.calls kj71 _ _ t363 t366 _ _ t309 t312 true _ ?side1 ?side2 ?side3 ?side4 A132.out).mono ?_); (case side1 => exact zH3); (case side2 => exact (Kd.R_reads' HO365.out).2.1); (case side3 => exact zH4); (case side4 => exact zH102); rintro e w146 ⟨rfl, hb⟩; refine ⟨_, rfl, ?_⟩; have n_ := zA_ (zb (zp zK135 hb)) (zA_ (zb (zp zK136 hb)) (zA_ (zb (zp zK139 hb)) (zA_ (zb (zad zK134 hb)) (zA_ (zb (zp zK140 hb)) (zA_ (zb (zp zK141 hb)) (zA_ (zb (zu (g := gb315) (o := .cells #[.slice Ao31 t309.length co31, .int .i64 t312] 50 (0, 0)) zK114 hb)) (zA_ (zb (zu (g := gb331) (o := .cells #[.slice Ao41 t325.length co41, .int .i64 t328] 50 (0, 0)) zK115 hb)) (zA_ (zb (zu (g := gb369) (o := .cells #[.slice Ao128 t363.length co128, .int .i64 t366] 50 (0, 0)) zK109 hb)) (zb (zq zK151 hb)))))))))); clear HO_316000 HO_332000 HO356 HO359 HO362 HO365 BK315 BK331 BK369 HB; obtain ⟨HO_316000, HO_332000, HO356, HO359, HO362, HO365, BK315, BK331, BK369, HB⟩ := n_; (try clear hb); (try clear hk)))
       go_meet
       case rel => exact ⟨_, (true), zG95, H', ⟨zH93⟩, ⟨zH66⟩, ⟨zH67⟩, ⟨zH65⟩, ⟨zH87⟩, ⟨zH88⟩, ⟨zH83⟩, ⟨zH25⟩⟩
      rw [if_pos c134] at H
      have c134b0 : (t367 == t313) = true := beq_iff_eq.mpr c134
      have c134b1 : (t367 != t313) = false := bne_eq_false_iff_eq.mpr c134
      clear c134
      (first | rw [c134b0] | (simp only [i64_w, i32_w]; rw [c134b0]) | skip)
      have H' := zb H
      clear H
      have hnb135 := NB369_315.out
      have hnc135 := NB315_369.out
      have hnb136 := NB369_331.out
      have hnc136 := NB331_369.out
      have hcz137_0 : w127.cell? ⟨gb369, 0, none⟩ = some (.slice none 0 0) := (zg BK369.out 0).trans rfl
      have hcz137_1 : w127.cell? ⟨gb369, 1, none⟩ = some (.int .i64 0) := (zg BK369.out 1).trans rfl
      have hfz137_0 := zf BK369.out 0
      have hfz137_1 := zf BK369.out 1
      have hnb138 := NB315_331.out
      have hnc138 := NB331_315.out
      have hcz139_0 : w127.cell? ⟨gb315, 0, none⟩ = some (.slice Ao31 t309.length co31) := (zg BK315.out 0).trans rfl
      have hcz139_1 : w127.cell? ⟨gb315, 1, none⟩ = some (.int .i64 t312) := (zg BK315.out 1).trans rfl
      have hfz139_0 := zf BK315.out 0
      have hfz139_1 := zf BK315.out 1
      go_wp2_with (first | ((with_reducible refine gate_callee (f := 27) rfl ?_); refine goesL_ (some 141) rfl rfl Try.func27 zG96 rfl #[.agg #[.slice Ao128 t363.length co128, .int .i64 t366], .agg #[.slice Ao31 t309.length co31, .int .i64 t312]] rfl zG65 ?_; (with_reducible refine (laws_eqRoster.calls kj71 _ _ t363 t366 _ _ t309 t312 true _ ?side1 ?side2 ?side3 ?side4 A132.out).mono ?_); (case side1 => exact zH3); (case side2 => exact (Kd.R_reads' HO365.out).2.1); (case side3 => exact zH4); (case side4 => exact zH102); rintro e w140 ⟨rfl, hb⟩; refine ⟨_, rfl, ?_⟩; have n_ := zA_ (zb (zp zK135 hb)) (zA_ (zb (zp zK136 hb)) (zA_ (zb (zp zK139 hb)) (zA_ (zb (zad zK134 hb)) (zA_ (zb (zp zK140 hb)) (zA_ (zb (zp zK141 hb)) (zA_ (zb (zu (g := gb315) (o := .cells #[.slice Ao31 t309.length co31, .int .i64 t312] 50 (0, 0)) zK114 hb)) (zA_ (zb (zu (g := gb331) (o := .cells #[.slice Ao41 t325.length co41, .int .i64 t328] 50 (0, 0)) zK115 hb)) (zA_ (zb (zu (g := gb369) (o := .cells #[.slice Ao128 t363.length co128, .int .i64 t366] 50 (0, 0)) zK109 hb)) (zb (zq zK151 hb)))))))))); clear HO_316000 HO_332000 HO356 HO359 HO362 HO365 BK315 BK331 BK369 HB; obtain ⟨HO_316000, HO_332000, HO356, HO359, HO362, HO365, BK315, BK331, BK369, HB⟩ := n_; (try clear hb); (try clear hk)))
      go_meet
      case rel => exact ⟨_, ((t368 != t314)), zG95, H', ⟨zH93⟩, ⟨zH66⟩, ⟨zH67⟩, ⟨zH65⟩, ⟨zH87⟩, ⟨zH88⟩, ⟨zH83⟩, ⟨zH25⟩⟩
     case rest =>
      clear HC114
      try clear c1
      try clear c2
      try clear p2
      try clear c3
      try clear c4
      try clear c4b0
      try clear c4b1
      try clear c5
      try clear c6
      try clear c6b0
      try clear c8
      try clear c9
      try clear c9b0
      try clear c10
      try clear c11
      try clear c12
      try clear c13
      try clear c14
      try clear c15
      try clear c18
      try clear c21
      try clear c22
      try clear c23
      try clear c24
      try clear c25
      try clear c26
      try clear c27
      try clear c28
      try clear c29
      try clear c30
      try clear c31
      try clear c32
      try clear c33
      try clear c42
      try clear c45
      try clear c46
      try clear c46b0
      try clear c46b1
      try clear c47
      try clear c51
      try clear c55
      try clear c59
      try clear c62
      try clear c65
      try clear c68
      try clear c84
      try clear c84b0
      try clear c86
      try clear c87
      try clear c87b0
      try clear c87b1
      try clear c88
      try clear c92
      try clear c96
      try clear c100
      try clear c103
      try clear c103b0
      try clear c104
      try clear c109
      try clear c109b0
      try clear c109b1
      try clear c115
      try clear c129
      try clear c130
      try clear c133
      try clear c134
      try clear c134b0
      try clear c134b1
      try clear c135
      try clear c136
      try clear c138
      try clear c141
      try clear c142
      try clear c144
      try clear c147
      try clear c148
      try clear c150
      try clear hcz105_0
      try clear hcz105_1
      try clear hcz107_0
      try clear hcz107_1
      try clear hcz116_0
      try clear hcz116_1
      try clear hcz118_0
      try clear hcz118_1
      try clear hcz131_0
      try clear hcz131_1
      try clear hcz137_0
      try clear hcz137_1
      try clear hcz139_0
      try clear hcz139_1
      try clear hcz143_0
      try clear hcz143_1
      try clear hcz145_0
      try clear hcz145_1
      try clear hcz149_0
      try clear hcz149_1
      try clear hcz151_0
      try clear hcz151_1
      try clear hcz32_0
      try clear hcz32_1
      try clear hcz43_0
      try clear hcz43_1
      try clear hcz48_0
      try clear hcz48_1
      try clear hcz49_0
      try clear hcz49_1
      try clear hcz52_0
      try clear hcz52_1
      try clear hcz53_0
      try clear hcz53_1
      try clear hcz56_0
      try clear hcz56_1
      try clear hcz57_0
      try clear hcz57_1
      try clear hcz89_0
      try clear hcz89_1
      try clear hcz90_0
      try clear hcz90_1
      try clear hcz93_0
      try clear hcz93_1
      try clear hcz94_0
      try clear hcz94_1
      try clear hcz97_0
      try clear hcz97_1
      try clear hcz98_0
      try clear hcz98_1
      try clear hfz105_0
      try clear hfz105_1
      try clear hfz107_0
      try clear hfz107_1
      try clear hfz116_0
      try clear hfz116_1
      try clear hfz118_0
      try clear hfz118_1
      try clear hfz131_0
      try clear hfz131_1
      try clear hfz137_0
      try clear hfz137_1
      try clear hfz139_0
      try clear hfz139_1
      try clear hfz143_0
      try clear hfz143_1
      try clear hfz145_0
      try clear hfz145_1
      try clear hfz149_0
      try clear hfz149_1
      try clear hfz151_0
      try clear hfz151_1
      try clear hfz32_0
      try clear hfz32_1
      try clear hfz43_0
      try clear hfz43_1
      try clear hfz48_0
      try clear hfz48_1
      try clear hfz49_0
      try clear hfz49_1
      try clear hfz52_0
      try clear hfz52_1
      try clear hfz53_0
      try clear hfz53_1
      try clear hfz56_0
      try clear hfz56_1
      try clear hfz57_0
      try clear hfz57_1
      try clear hfz89_0
      try clear hfz89_1
      try clear hfz90_0
      try clear hfz90_1
      try clear hfz93_0
      try clear hfz93_1
      try clear hfz94_0
      try clear hfz94_1
      try clear hfz97_0
      try clear hfz97_1
      try clear hfz98_0
      try clear hfz98_1
      try clear p2
      obtain ⟨kq, x152_113, rfl, HA, HJ113, HO_316000, HO_332000, HO_370000, BK315, BK331, BK369, HB⟩ := hcut
      have hl332000_113 := (Kd.R_reads' HO_332000.out).1
      rw [hl332000_113] at HO_332000
      (try simp only [hl332000_113])
      (try simp only [hl332000_113] at BK315)
      (try simp only [hl332000_113] at BK331)
      (try simp only [hl332000_113] at BK369)
      (try simp only [hl332000_113] at HO_316000)
      (try simp only [hl332000_113] at HO_370000)
      cases kq with
      | zero => exact absurd HA.out (by simp [laws_FnExactRosterOf.j2])
      | succ kj113 =>
       have H := HA.out
       clear HA
       simp only [laws_FnExactRosterOf.j2] at H
       by_cases c153 : x152_113 = true
       ·subst c153
        have H1 : (some false) = some r := by rw [if_pos rfl] at H; exact H
        clear H
        have H := H1
        clear H1
        obtain rfl := Option.some.inj H
        go_wp2
        go_ret
        exact zH11
       replace c153 := Bool.eq_false_iff.mpr c153
       subst c153
       have H1 : ((laws_heldRoster.f kj113 t352 t328 1).bind fun t371 => (if t371 < 0 then (some false) else (if t371 = t351 then (some true) else (some false)))) = some r := by rw [if_neg (show ¬ (false = true) by decide)] at H; exact H
       clear H
       have H := H1
       clear H1
       replace H := Option.bind_eq_some_iff.mp H
       obtain ⟨t371, A1540, H⟩ := H
       replace H : (if t371 < 0 then (some false) else (if t371 = t351 then (some true) else (some false))) = some r := H
       have A154 := zb A1540
       clear A1540
       by_cases c155 : t371 < 0
       ·rw [if_pos c155] at H
        have c155b0 := decide_eq_true c155
        clear c155
        obtain rfl := Option.some.inj H
        have hnb156 := NB331_315.out
        have hnc156 := NB315_331.out
        have hnb157 := NB331_369.out
        have hnc157 := NB369_331.out
        have hcz158_0 : wc.cell? ⟨gb331, 0, none⟩ = some (.slice Ao41 t352.length co41) := (zg BK331.out 0).trans rfl
        have hcz158_1 : wc.cell? ⟨gb331, 1, none⟩ = some (.int .i64 t328) := (zg BK331.out 1).trans rfl
        have hfz158_0 := zf BK331.out 0
        have hfz158_1 := zf BK331.out 1
        go_wp2_with (first | ((with_reducible refine gate_callee (f := 33) rfl ?_); refine goesL_ (some 155) rfl rfl Try.func33 zG96 rfl #[.agg #[.slice Ao41 t352.length co41, .int .i64 t328], .int .i64 1] rfl zG65 ?_; (with_reducible refine (laws_heldRoster.calls kj113 _ _ t352 t328 1 t371 _ ?side1 ?side2 A154.out).mono ?_); (case side1 => exact zH30); (case side2 => exact zH103); rintro e w159 ⟨rfl, hb⟩; refine ⟨_, rfl, ?_⟩; have n_ := zA_ (zb (zp zG80 hb)) (zA_ (zb (zp zG81 hb)) (zA_ (zb (zp zK183 hb)) (zA_ (zb (zu (g := gb315) (o := .cells #[.slice Ao31 t309.length co31, .int .i64 t312] 50 (0, 0)) zG77 hb)) (zA_ (zb (zu (g := gb331) (o := .cells #[.slice Ao41 t352.length co41, .int .i64 t328] 50 (0, 0)) zG78 hb)) (zA_ (zb (zu (g := gb369) (o := .cells #[.slice Ao128 t363.length co128, .int .i64 t366] 50 (0, 0)) zK180 hb)) (zb (zq zK151 hb))))))); clear HO_316000 HO_332000 HO_370000 BK315 BK331 BK369 HB; obtain ⟨HO_316000, HO_332000, HO_370000, BK315, BK331, BK369, HB⟩ := n_; (try clear hb)))
        go_ret
        exact zH11
       rw [if_neg c155] at H
       have c155b0 := decide_eq_false c155
       clear c155
       by_cases c160 : t371 = t351
       rotate_left
       ·rw [if_neg c160] at H
        have c160b0 : (t371 == t351) = false := beq_eq_false_iff_ne.mpr c160
        have c160b1 : (t371 != t351) = true := bne_iff_ne.mpr c160
        obtain rfl := Option.some.inj H
        have hnb165 := NB331_315.out
        have hnc165 := NB315_331.out
        have hnb166 := NB331_369.out
        have hnc166 := NB369_331.out
        have hcz167_0 : wc.cell? ⟨gb331, 0, none⟩ = some (.slice Ao41 t352.length co41) := (zg BK331.out 0).trans rfl
        have hcz167_1 : wc.cell? ⟨gb331, 1, none⟩ = some (.int .i64 t328) := (zg BK331.out 1).trans rfl
        have hfz167_0 := zf BK331.out 0
        have hfz167_1 := zf BK331.out 1
        go_wp2_with (first | ((with_reducible refine gate_callee (f := 33) rfl ?_); refine goesL_ (some 155) rfl rfl Try.func33 zG96 rfl #[.agg #[.slice Ao41 t352.length co41, .int .i64 t328], .int .i64 1] rfl zG65 ?_; (with_reducible refine (laws_heldRoster.calls kj113 _ _ t352 t328 1 t371 _ ?side1 ?side2 A154.out).mono ?_); (case side1 => exact zH30); (case side2 => exact zH103); rintro e w168 ⟨rfl, hb⟩; refine ⟨_, rfl, ?_⟩; have n_ := zA_ (zb (zp zG80 hb)) (zA_ (zb (zp zG81 hb)) (zA_ (zb (zp zK183 hb)) (zA_ (zb (zu (g := gb315) (o := .cells #[.slice Ao31 t309.length co31, .int .i64 t312] 50 (0, 0)) zG77 hb)) (zA_ (zb (zu (g := gb331) (o := .cells #[.slice Ao41 t352.length co41, .int .i64 t328] 50 (0, 0)) zG78 hb)) (zA_ (zb (zu (g := gb369) (o := .cells #[.slice Ao128 t363.length co128, .int .i64 t366] 50 (0, 0)) zK180 hb)) (zb (zq zK151 hb))))))); clear HO_316000 HO_332000 HO_370000 BK315 BK331 BK369 HB; obtain ⟨HO_316000, HO_332000, HO_370000, BK315, BK331, BK369, HB⟩ := n_; (try clear hb)))
        go_ret
        exact zH11
       rw [if_pos c160] at H
       have c160b0 : (t371 == t351) = true := beq_iff_eq.mpr c160
       have c160b1 : (t371 != t351) = false := bne_eq_false_iff_eq.mpr c160
       clear c160
       obtain rfl := Option.some.inj H
       have hnb161 := NB331_315.out
       have hnc161 := NB315_331.out
       have hnb162 := NB331_369.out
       have hnc162 := NB369_331.out
       have hcz163_0 : wc.cell? ⟨gb331, 0, none⟩ = some (.slice Ao41 t352.length co41) := (zg BK331.out 0).trans rfl
       have hcz163_1 : wc.cell? ⟨gb331, 1, none⟩ = some (.int .i64 t328) := (zg BK331.out 1).trans rfl
       have hfz163_0 := zf BK331.out 0
       have hfz163_1 := zf BK331.out 1
       go_wp2_with (first | ((with_reducible refine gate_callee (f := 33) rfl ?_); refine goesL_ (some 155) rfl rfl Try.func33 zG96 rfl #[.agg #[.slice Ao41 t352.length co41, .int .i64 t328], .int .i64 1] rfl zG65 ?_; (with_reducible refine (laws_heldRoster.calls kj113 _ _ t352 t328 1 t371 _ ?side1 ?side2 A154.out).mono ?_); (case side1 => exact zH30); (case side2 => exact zH103); rintro e w164 ⟨rfl, hb⟩; refine ⟨_, rfl, ?_⟩; have n_ := zA_ (zb (zp zG80 hb)) (zA_ (zb (zp zG81 hb)) (zA_ (zb (zp zK183 hb)) (zA_ (zb (zu (g := gb315) (o := .cells #[.slice Ao31 t309.length co31, .int .i64 t312] 50 (0, 0)) zG77 hb)) (zA_ (zb (zu (g := gb331) (o := .cells #[.slice Ao41 t352.length co41, .int .i64 t328] 50 (0, 0)) zG78 hb)) (zA_ (zb (zu (g := gb369) (o := .cells #[.slice Ao128 t363.length co128, .int .i64 t366] 50 (0, 0)) zK180 hb)) (zb (zq zK151 hb))))))); clear HO_316000 HO_332000 HO_370000 BK315 BK331 BK369 HB; obtain ⟨HO_316000, HO_332000, HO_370000, BK315, BK331, BK369, HB⟩ := n_; (try clear hb)))
       go_ret
       exact zH11
end Go.Proofs.Ytjibigpdbpipcaa.R
