-- squeezed
-- made by pp.py (wip/tools) out of the translation; Lean checks it
import Derived.Test.YtjibigpdbpipcaaL0
import Derived.Test.YtjibigpdbpipcaaL1
import Derived.Test.YtjibigpdbpipcaaL5
import Derived.Test.YtjibigpdbpipcaaL6
import Derived.Test.YtjibigpdbpipcaaL11
import Derived.Test.YtjibigpdbpipcaaL12
import Derived.Test.YtjibigpdbpipcaaL13
namespace Go.Proofs.Ytjibigpdbpipcaa.L
open Go.RowKit Go.Proofs.YtjibigpdbpipcaaW.PrintWords Go.Proofs.YtjibigpdbpipcaaW.PrintLast Go.Proofs.YtjibigpdbpipcaaW.PrintMore
attribute [local go_sem] max2_int min2_int max_two min_two max_three min_three max_four min_four   -- for this text's walks alone
set_option linter.unusedVariables false
set_option linter.unusedSimpArgs false


/-! ### laws_FnExactSourceOf: function 3 -/
mutual
def laws_FnExactSourceOf.j0 : Nat → List (S66) → List (S69) → List Int → Int → List (S75) → List (S76) → List Int → Int → Bool → List Int → Int → Int → List Int → Int → Int → Option (Bool)
 | 0, _, _, _, _, _, _, _, _, _, _, _, _, _, _, _ => none
 | k + 1, x0, x1, x2, x9, x10, x11, x12, x14, x64, x314000, x314001, x314002, x330000, x330001, x330002 => if x64 = true then (some false) else ((laws_toSourceS.f k x0).bind fun t331 => ((laws_eqSourceS.f k x10 t331).bind fun t334 => (if t334 = true then ((laws_toStockedS.f k x1).bind fun t335 => ((laws_eqStockedS.f k x11 t335).bind fun t338 => (if t338 = true then ((laws_toIntS.f k x2).bind fun t339 => ((laws_eqIntS.f k x12 t339).bind fun t342 => (if t342 = true then ((laws_markSourceS.f k x10 1).bind fun t343 => ((laws_markStockedS.f k x11 t343).bind fun bt344 => ((laws_markIntS.f k x12 bt344.1).bind fun bt346 => (if bt346.1 < 0 then (laws_FnExactSourceOf.j1 k x0 x1 x2 x9 true x314000 x314001 x314002 x330000 x330001 x330002) else ((laws_eqSourcing.f k x330000 x330001 x330002 x314000 x314001 x314002).bind fun t348 => (if t348 = true then (laws_FnExactSourceOf.j1 k x0 x1 x2 x9 (x14 != x9) x314000 x314001 x314002 x330000 x330001 x330002) else (laws_FnExactSourceOf.j1 k x0 x1 x2 x9 true x314000 x314001 x314002 x330000 x330001 x330002))))))) else (some false)))) else (some false)))) else (some false))))
def laws_FnExactSourceOf.j1 : Nat → List (S66) → List (S69) → List Int → Int → Bool → List Int → Int → Int → List Int → Int → Int → Option (Bool)
 | 0, _, _, _, _, _, _, _, _, _, _, _ => none
 | k + 1, x0, x1, x2, x9, x101, x314000, x314001, x314002, x330000, x330001, x330002 => if x101 = true then (some false) else ((laws_markSourcing.f k x330000 x330001 x330002 1).bind fun bt349 => ((laws_heldSourcing.f k bt349.2 x330001 x330002 1).bind fun t351 => (if t351 < 0 then (some false) else (if t351 = bt349.1 then ((laws_toSourceS.f k x0).bind fun t352 => ((laws_toStockedS.f k x1).bind fun t355 => ((laws_toIntS.f k x2).bind fun t358 => ((impl_SourceOf.f k t352 t355 t358).bind fun bt361 => ((laws_eqSourcing.f k bt361.1 bt361.2.1 bt361.2.2.1 x314000 x314001 x314002).bind fun t368 => (if t368 = true then (laws_FnExactSourceOf.j2 k bt349.1 (bt361.2.2.2 != x9) bt349.2 x330001 x330002) else (laws_FnExactSourceOf.j2 k bt349.1 true bt349.2 x330001 x330002))))))) else (some false)))))
def laws_FnExactSourceOf.j2 : Nat → Int → Bool → List Int → Int → Int → Option (Bool)
 | 0, _, _, _, _, _ => none
 | k + 1, x16, x131, x330000, x330001, x330002 => if x131 = true then (some false) else ((laws_heldSourcing.f k x330000 x330001 x330002 1).bind fun t369 => (if t369 < 0 then (some false) else (if t369 = x16 then (some true) else (some false))))
end
def laws_FnExactSourceOf.f (k : Nat) (l0 : List (S66)) (l1 : List (S69)) (l2 : List Int) : Option (Bool) := if (l2.length : Int) > 1048576 then (some true) else ((laws_szSourceS.f k l0 1048576).bind fun t296 => (if t296 < 0 then (some true) else ((laws_szStockedS.f k l1 t296).bind fun t297 => (if t297 < 0 then (some true) else ((laws_toSourceS.f k l0).bind fun t298 => ((laws_toStockedS.f k l1).bind fun t301 => ((laws_toIntS.f k l2).bind fun t304 => ((spec_SourceOf.f k t298 t301 t304).bind fun bt307 => ((laws_toSourceS.f k l0).bind fun t314 => ((laws_toStockedS.f k l1).bind fun t317 => ((laws_toIntS.f k l2).bind fun t320 => ((impl_SourceOf.f k t314 t317 t320).bind fun bt323 => ((laws_eqSourcing.f k bt323.1 bt323.2.1 bt323.2.2.1 bt307.1 bt307.2.1 bt307.2.2.1).bind fun t330 => (if t330 = true then (laws_FnExactSourceOf.j0 k l0 l1 l2 bt307.2.2.2 t314 t317 t320 bt323.2.2.2 (bt323.2.2.2 != bt307.2.2.2) bt307.1 bt307.2.1 bt307.2.2.1 bt323.1 bt323.2.1 bt323.2.2.1) else (laws_FnExactSourceOf.j0 k l0 l1 l2 bt307.2.2.2 t314 t317 t320 bt323.2.2.2 true bt307.1 bt307.2.1 bt307.2.2.1 bt323.1 bt323.2.1 bt323.2.2.1)))))))))))))))
theorem laws_FnExactSourceOf.mono_l : ∀ k, (∀ y0 y1 y2 y3 y4 y5 y6 y7 y8 y9 y10 y11 y12 y13 y14, LeO (laws_FnExactSourceOf.j0 k y0 y1 y2 y3 y4 y5 y6 y7 y8 y9 y10 y11 y12 y13 y14) (laws_FnExactSourceOf.j0 (k + 1) y0 y1 y2 y3 y4 y5 y6 y7 y8 y9 y10 y11 y12 y13 y14)) ∧ (∀ y0 y1 y2 y3 y4 y5 y6 y7 y8 y9 y10, LeO (laws_FnExactSourceOf.j1 k y0 y1 y2 y3 y4 y5 y6 y7 y8 y9 y10) (laws_FnExactSourceOf.j1 (k + 1) y0 y1 y2 y3 y4 y5 y6 y7 y8 y9 y10)) ∧ (∀ y0 y1 y2 y3 y4, LeO (laws_FnExactSourceOf.j2 k y0 y1 y2 y3 y4) (laws_FnExactSourceOf.j2 (k + 1) y0 y1 y2 y3 y4))
 | 0 => ⟨fun _ _ _ _ _ _ _ _ _ _ _ _ _ _ _ r h => by simp [laws_FnExactSourceOf.j0] at h, fun _ _ _ _ _ _ _ _ _ _ _ r h => by simp [laws_FnExactSourceOf.j1] at h, fun _ _ _ _ _ r h => by simp [laws_FnExactSourceOf.j2] at h⟩
 | k + 1 => by
  obtain ⟨ih0, ih1, ih2⟩ := laws_FnExactSourceOf.mono_l k
  refine ⟨?_, ?_, ?_⟩
  ·intro y0 y1 y2 y3 y4 y5 y6 y7 y8 y9 y10 y11 y12 y13 y14
   unfold laws_FnExactSourceOf.j0
   repeat' first
   | (with_reducible exact ih0 _ _ _ _ _ _ _ _ _ _ _ _ _ _ _)
   | (with_reducible exact ih1 _ _ _ _ _ _ _ _ _ _ _)
   | (with_reducible exact ih2 _ _ _ _ _)
   | (with_reducible exact impl_SourceOf.mono _ _ _ _)
   | (with_reducible exact laws_eqIntS.mono _ _ _)
   | (with_reducible exact laws_eqSourceS.mono _ _ _)
   | (with_reducible exact laws_eqSourcing.mono _ _ _ _ _ _ _)
   | (with_reducible exact laws_eqStockedS.mono _ _ _)
   | (with_reducible exact laws_heldSourcing.mono _ _ _ _ _)
   | (with_reducible exact laws_markIntS.mono _ _ _)
   | (with_reducible exact laws_markSourceS.mono _ _ _)
   | (with_reducible exact laws_markSourcing.mono _ _ _ _ _)
   | (with_reducible exact laws_markStockedS.mono _ _ _)
   | (with_reducible exact laws_szSourceS.mono _ _ _)
   | (with_reducible exact laws_szStockedS.mono _ _ _)
   | (with_reducible exact laws_toIntS.mono _ _)
   | (with_reducible exact laws_toSourceS.mono _ _)
   | (with_reducible exact laws_toStockedS.mono _ _)
   | (with_reducible exact spec_SourceOf.mono _ _ _ _)
   | (with_reducible exact LeO.refl _)
   | (with_reducible exact LeO.none _)
   | (with_reducible refine LeO.ite ?_ ?_)
   | (with_reducible refine LeO.bind ?_ (fun _ => ?_))
   | exact ih0 _ _ _ _ _ _ _ _ _ _ _ _ _ _ _
   | exact ih1 _ _ _ _ _ _ _ _ _ _ _
   | exact ih2 _ _ _ _ _
   | exact impl_SourceOf.mono _ _ _ _
   | exact laws_eqIntS.mono _ _ _
   | exact laws_eqSourceS.mono _ _ _
   | exact laws_eqSourcing.mono _ _ _ _ _ _ _
   | exact laws_eqStockedS.mono _ _ _
   | exact laws_heldSourcing.mono _ _ _ _ _
   | exact laws_markIntS.mono _ _ _
   | exact laws_markSourceS.mono _ _ _
   | exact laws_markSourcing.mono _ _ _ _ _
   | exact laws_markStockedS.mono _ _ _
   | exact laws_szSourceS.mono _ _ _
   | exact laws_szStockedS.mono _ _ _
   | exact laws_toIntS.mono _ _
   | exact laws_toSourceS.mono _ _
   | exact laws_toStockedS.mono _ _
   | exact spec_SourceOf.mono _ _ _ _
   | exact LeO.none _
   | refine LeO.ite ?_ ?_
   | refine LeO.bind ?_ (fun _ => ?_)
  ·intro y0 y1 y2 y3 y4 y5 y6 y7 y8 y9 y10
   unfold laws_FnExactSourceOf.j1
   repeat' first
   | (with_reducible exact ih0 _ _ _ _ _ _ _ _ _ _ _ _ _ _ _)
   | (with_reducible exact ih1 _ _ _ _ _ _ _ _ _ _ _)
   | (with_reducible exact ih2 _ _ _ _ _)
   | (with_reducible exact impl_SourceOf.mono _ _ _ _)
   | (with_reducible exact laws_eqIntS.mono _ _ _)
   | (with_reducible exact laws_eqSourceS.mono _ _ _)
   | (with_reducible exact laws_eqSourcing.mono _ _ _ _ _ _ _)
   | (with_reducible exact laws_eqStockedS.mono _ _ _)
   | (with_reducible exact laws_heldSourcing.mono _ _ _ _ _)
   | (with_reducible exact laws_markIntS.mono _ _ _)
   | (with_reducible exact laws_markSourceS.mono _ _ _)
   | (with_reducible exact laws_markSourcing.mono _ _ _ _ _)
   | (with_reducible exact laws_markStockedS.mono _ _ _)
   | (with_reducible exact laws_szSourceS.mono _ _ _)
   | (with_reducible exact laws_szStockedS.mono _ _ _)
   | (with_reducible exact laws_toIntS.mono _ _)
   | (with_reducible exact laws_toSourceS.mono _ _)
   | (with_reducible exact laws_toStockedS.mono _ _)
   | (with_reducible exact spec_SourceOf.mono _ _ _ _)
   | (with_reducible exact LeO.refl _)
   | (with_reducible exact LeO.none _)
   | (with_reducible refine LeO.ite ?_ ?_)
   | (with_reducible refine LeO.bind ?_ (fun _ => ?_))
   | exact ih0 _ _ _ _ _ _ _ _ _ _ _ _ _ _ _
   | exact ih1 _ _ _ _ _ _ _ _ _ _ _
   | exact ih2 _ _ _ _ _
   | exact impl_SourceOf.mono _ _ _ _
   | exact laws_eqIntS.mono _ _ _
   | exact laws_eqSourceS.mono _ _ _
   | exact laws_eqSourcing.mono _ _ _ _ _ _ _
   | exact laws_eqStockedS.mono _ _ _
   | exact laws_heldSourcing.mono _ _ _ _ _
   | exact laws_markIntS.mono _ _ _
   | exact laws_markSourceS.mono _ _ _
   | exact laws_markSourcing.mono _ _ _ _ _
   | exact laws_markStockedS.mono _ _ _
   | exact laws_szSourceS.mono _ _ _
   | exact laws_szStockedS.mono _ _ _
   | exact laws_toIntS.mono _ _
   | exact laws_toSourceS.mono _ _
   | exact laws_toStockedS.mono _ _
   | exact spec_SourceOf.mono _ _ _ _
   | exact LeO.none _
   | refine LeO.ite ?_ ?_
   | refine LeO.bind ?_ (fun _ => ?_)
  ·intro y0 y1 y2 y3 y4
   unfold laws_FnExactSourceOf.j2
   repeat' first
   | (with_reducible exact ih0 _ _ _ _ _ _ _ _ _ _ _ _ _ _ _)
   | (with_reducible exact ih1 _ _ _ _ _ _ _ _ _ _ _)
   | (with_reducible exact ih2 _ _ _ _ _)
   | (with_reducible exact impl_SourceOf.mono _ _ _ _)
   | (with_reducible exact laws_eqIntS.mono _ _ _)
   | (with_reducible exact laws_eqSourceS.mono _ _ _)
   | (with_reducible exact laws_eqSourcing.mono _ _ _ _ _ _ _)
   | (with_reducible exact laws_eqStockedS.mono _ _ _)
   | (with_reducible exact laws_heldSourcing.mono _ _ _ _ _)
   | (with_reducible exact laws_markIntS.mono _ _ _)
   | (with_reducible exact laws_markSourceS.mono _ _ _)
   | (with_reducible exact laws_markSourcing.mono _ _ _ _ _)
   | (with_reducible exact laws_markStockedS.mono _ _ _)
   | (with_reducible exact laws_szSourceS.mono _ _ _)
   | (with_reducible exact laws_szStockedS.mono _ _ _)
   | (with_reducible exact laws_toIntS.mono _ _)
   | (with_reducible exact laws_toSourceS.mono _ _)
   | (with_reducible exact laws_toStockedS.mono _ _)
   | (with_reducible exact spec_SourceOf.mono _ _ _ _)
   | (with_reducible exact LeO.refl _)
   | (with_reducible exact LeO.none _)
   | (with_reducible refine LeO.ite ?_ ?_)
   | (with_reducible refine LeO.bind ?_ (fun _ => ?_))
   | exact ih0 _ _ _ _ _ _ _ _ _ _ _ _ _ _ _
   | exact ih1 _ _ _ _ _ _ _ _ _ _ _
   | exact ih2 _ _ _ _ _
   | exact impl_SourceOf.mono _ _ _ _
   | exact laws_eqIntS.mono _ _ _
   | exact laws_eqSourceS.mono _ _ _
   | exact laws_eqSourcing.mono _ _ _ _ _ _ _
   | exact laws_eqStockedS.mono _ _ _
   | exact laws_heldSourcing.mono _ _ _ _ _
   | exact laws_markIntS.mono _ _ _
   | exact laws_markSourceS.mono _ _ _
   | exact laws_markSourcing.mono _ _ _ _ _
   | exact laws_markStockedS.mono _ _ _
   | exact laws_szSourceS.mono _ _ _
   | exact laws_szStockedS.mono _ _ _
   | exact laws_toIntS.mono _ _
   | exact laws_toSourceS.mono _ _
   | exact laws_toStockedS.mono _ _
   | exact spec_SourceOf.mono _ _ _ _
   | exact LeO.none _
   | refine LeO.ite ?_ ?_
   | refine LeO.bind ?_ (fun _ => ?_)
theorem laws_FnExactSourceOf.mono : ∀ a0 a1 a2 k, LeO (laws_FnExactSourceOf.f k a0 a1 a2) (laws_FnExactSourceOf.f (k + 1) a0 a1 a2) := by
 intro a0 a1 a2 k
 obtain ⟨ih0, ih1, ih2⟩ := laws_FnExactSourceOf.mono_l k
 unfold laws_FnExactSourceOf.f
 repeat' first
   | (with_reducible exact ih0 _ _ _ _ _ _ _ _ _ _ _ _ _ _ _)
   | (with_reducible exact ih1 _ _ _ _ _ _ _ _ _ _ _)
   | (with_reducible exact ih2 _ _ _ _ _)
   | (with_reducible exact impl_SourceOf.mono _ _ _ _)
   | (with_reducible exact laws_eqIntS.mono _ _ _)
   | (with_reducible exact laws_eqSourceS.mono _ _ _)
   | (with_reducible exact laws_eqSourcing.mono _ _ _ _ _ _ _)
   | (with_reducible exact laws_eqStockedS.mono _ _ _)
   | (with_reducible exact laws_heldSourcing.mono _ _ _ _ _)
   | (with_reducible exact laws_markIntS.mono _ _ _)
   | (with_reducible exact laws_markSourceS.mono _ _ _)
   | (with_reducible exact laws_markSourcing.mono _ _ _ _ _)
   | (with_reducible exact laws_markStockedS.mono _ _ _)
   | (with_reducible exact laws_szSourceS.mono _ _ _)
   | (with_reducible exact laws_szStockedS.mono _ _ _)
   | (with_reducible exact laws_toIntS.mono _ _)
   | (with_reducible exact laws_toSourceS.mono _ _)
   | (with_reducible exact laws_toStockedS.mono _ _)
   | (with_reducible exact spec_SourceOf.mono _ _ _ _)
   | (with_reducible exact LeO.refl _)
   | (with_reducible exact LeO.none _)
   | (with_reducible refine LeO.ite ?_ ?_)
   | (with_reducible refine LeO.bind ?_ (fun _ => ?_))
   | exact ih0 _ _ _ _ _ _ _ _ _ _ _ _ _ _ _
   | exact ih1 _ _ _ _ _ _ _ _ _ _ _
   | exact ih2 _ _ _ _ _
   | exact impl_SourceOf.mono _ _ _ _
   | exact laws_eqIntS.mono _ _ _
   | exact laws_eqSourceS.mono _ _ _
   | exact laws_eqSourcing.mono _ _ _ _ _ _ _
   | exact laws_eqStockedS.mono _ _ _
   | exact laws_heldSourcing.mono _ _ _ _ _
   | exact laws_markIntS.mono _ _ _
   | exact laws_markSourceS.mono _ _ _
   | exact laws_markSourcing.mono _ _ _ _ _
   | exact laws_markStockedS.mono _ _ _
   | exact laws_szSourceS.mono _ _ _
   | exact laws_szStockedS.mono _ _ _
   | exact laws_toIntS.mono _ _
   | exact laws_toSourceS.mono _ _
   | exact laws_toStockedS.mono _ _
   | exact spec_SourceOf.mono _ _ _ _
   | exact LeO.none _
   | refine LeO.ite ?_ ?_
   | refine LeO.bind ?_ (fun _ => ?_)
set_option maxHeartbeats 8000000 in
set_option maxRecDepth 100000 in
theorem laws_FnExactSourceOf.calls (k : Nat) (A0 : Option Addr) (c0 : Nat) (l0 : List (S66)) (A1 : Option Addr) (c1 : Nat) (l1 : List (S69)) (A2 : Option Addr) (c2 : Nat) (l2 : List Int) (r : Bool) (w : World) (hr0 : Kd.C k66 w A0 l0.length l0) (hc0 : l0.length ≤ c0) (hr1 : Kd.C k69 w A1 l1.length l1) (hc1 : l1.length ≤ c1) (hr2 : Kd.C (Kd.int .i64) w A2 l2.length l2) (hc2 : l2.length ≤ c2) (h : laws_FnExactSourceOf.f k l0 l1 l2 = some r) :
  Calls Try.prog 3 #[.slice A0 l0.length c0, .slice A1 l1.length c1, .slice A2 l2.length c2] w fun e w' => e = .returned (.bool r) ∧ Below w.heap.size w w' := by
 have hu28 := Try.underlying28
 have HR0 := za hr0
 have HC0 := za hc0
 clear hr0 hc0
 have HR1 := za hr1
 have HC1 := za hc1
 clear hr1 hc1
 have HR2 := za hr2
 have HC2 := za hc2
 clear hr2 hc2
 have HB := za (Below.refl w.heap.size w)
 have H : (if (l2.length : Int) > 1048576 then (some true) else ((laws_szSourceS.f k l0 1048576).bind fun t296 => (if t296 < 0 then (some true) else ((laws_szStockedS.f k l1 t296).bind fun t297 => (if t297 < 0 then (some true) else ((laws_toSourceS.f k l0).bind fun t298 => ((laws_toStockedS.f k l1).bind fun t301 => ((laws_toIntS.f k l2).bind fun t304 => ((spec_SourceOf.f k t298 t301 t304).bind fun bt307 => ((laws_toSourceS.f k l0).bind fun t314 => ((laws_toStockedS.f k l1).bind fun t317 => ((laws_toIntS.f k l2).bind fun t320 => ((impl_SourceOf.f k t314 t317 t320).bind fun bt323 => ((laws_eqSourcing.f k bt323.1 bt323.2.1 bt323.2.2.1 bt307.1 bt307.2.1 bt307.2.2.1).bind fun t330 => (if t330 = true then (laws_FnExactSourceOf.j0 k l0 l1 l2 bt307.2.2.2 t314 t317 t320 bt323.2.2.2 (bt323.2.2.2 != bt307.2.2.2) bt307.1 bt307.2.1 bt307.2.2.1 bt323.1 bt323.2.1 bt323.2.2.1) else (laws_FnExactSourceOf.j0 k l0 l1 l2 bt307.2.2.2 t314 t317 t320 bt323.2.2.2 true bt307.1 bt307.2.1 bt307.2.2.1 bt323.1 bt323.2.1 bt323.2.2.1)))))))))))))))) = some r := h
 clear h
 by_cases c4 : (l2.length : Int) > 1048576
 ·rw [if_pos c4] at H
  have c4b0 : decide (1048576 < (l2.length : Int)) = true := decide_eq_true c4
  have c4b1 : decide (1048576 < l2.length) = true := decide_eq_true (by omega)
  clear c4
  obtain rfl := Option.some.inj H
  go_enter Try.func3, Try.ntmps3
  go_wp2
  go_ret
  exact ⟨by first | rfl | (simp [errW_none, errW_some] <;> rfl) | (simp [*, errW_none, errW_some] <;> rfl), by repeat (first | (with_reducible first | exact HB.out | apply zd | apply zb | apply zc) | exact HB.out)⟩
 ·rw [if_neg c4] at H
  have c4b0 : decide (1048576 < (l2.length : Int)) = false := decide_eq_false c4
  have c4b1 : decide (1048576 < l2.length) = false := decide_eq_false (by omega)
  clear c4
  replace H := Option.bind_eq_some_iff.mp H
  obtain ⟨t296, A50, H⟩ := H
  replace H : (if t296 < 0 then (some true) else ((laws_szStockedS.f k l1 t296).bind fun t297 => (if t297 < 0 then (some true) else ((laws_toSourceS.f k l0).bind fun t298 => ((laws_toStockedS.f k l1).bind fun t301 => ((laws_toIntS.f k l2).bind fun t304 => ((spec_SourceOf.f k t298 t301 t304).bind fun bt307 => ((laws_toSourceS.f k l0).bind fun t314 => ((laws_toStockedS.f k l1).bind fun t317 => ((laws_toIntS.f k l2).bind fun t320 => ((impl_SourceOf.f k t314 t317 t320).bind fun bt323 => ((laws_eqSourcing.f k bt323.1 bt323.2.1 bt323.2.2.1 bt307.1 bt307.2.1 bt307.2.2.1).bind fun t330 => (if t330 = true then (laws_FnExactSourceOf.j0 k l0 l1 l2 bt307.2.2.2 t314 t317 t320 bt323.2.2.2 (bt323.2.2.2 != bt307.2.2.2) bt307.1 bt307.2.1 bt307.2.2.1 bt323.1 bt323.2.1 bt323.2.2.1) else (laws_FnExactSourceOf.j0 k l0 l1 l2 bt307.2.2.2 t314 t317 t320 bt323.2.2.2 true bt307.1 bt307.2.1 bt307.2.2.1 bt323.1 bt323.2.1 bt323.2.2.1)))))))))))))) = some r := H
  have A5 := za A50
  clear A50
  by_cases c6 : t296 < 0
  ·rw [if_pos c6] at H
   have c6b0 : decide (t296 < 0) = true := decide_eq_true c6
   clear c6
   obtain rfl := Option.some.inj H
   go_enter Try.func3, Try.ntmps3
   go_wp2_with (first | ((with_reducible refine gate_callee (f := 5) rfl ?_); refine goesL_ (some 25) rfl rfl Try.func5 zG83 rfl #[.slice A0 l0.length c0, .int .i64 1048576] rfl zG67 ?_; (with_reducible refine (laws_szSourceS.calls k _ _ l0 1048576 t296 _ ?side1 ?side2 A5.out).mono ?_); (case side1 => repeat (first | exact HR0.out | (with_reducible refine zs ?_ _) | (with_reducible refine zt ?_ _) | (with_reducible refine zu ?_))); (case side2 => exact HC0.out); rintro e w7 ⟨rfl, hb⟩; refine ⟨_, rfl, ?_⟩; have n0_ := za (zq zG72 hb); clear HB; have HB := n0_; clear n0_; (try clear hb); (try clear hb2); (try clear hk); (try clear hi)))
   go_ret
   exact ⟨by first | rfl | (simp [errW_none, errW_some] <;> rfl) | (simp [*, errW_none, errW_some] <;> rfl), by repeat (first | (with_reducible first | exact HB.out | apply zd | apply zb | apply zc) | exact HB.out)⟩
  ·rw [if_neg c6] at H
   have c6b0 : decide (t296 < 0) = false := decide_eq_false c6
   clear c6
   replace H := Option.bind_eq_some_iff.mp H
   obtain ⟨t297, A80, H⟩ := H
   replace H : (if t297 < 0 then (some true) else ((laws_toSourceS.f k l0).bind fun t298 => ((laws_toStockedS.f k l1).bind fun t301 => ((laws_toIntS.f k l2).bind fun t304 => ((spec_SourceOf.f k t298 t301 t304).bind fun bt307 => ((laws_toSourceS.f k l0).bind fun t314 => ((laws_toStockedS.f k l1).bind fun t317 => ((laws_toIntS.f k l2).bind fun t320 => ((impl_SourceOf.f k t314 t317 t320).bind fun bt323 => ((laws_eqSourcing.f k bt323.1 bt323.2.1 bt323.2.2.1 bt307.1 bt307.2.1 bt307.2.2.1).bind fun t330 => (if t330 = true then (laws_FnExactSourceOf.j0 k l0 l1 l2 bt307.2.2.2 t314 t317 t320 bt323.2.2.2 (bt323.2.2.2 != bt307.2.2.2) bt307.1 bt307.2.1 bt307.2.2.1 bt323.1 bt323.2.1 bt323.2.2.1) else (laws_FnExactSourceOf.j0 k l0 l1 l2 bt307.2.2.2 t314 t317 t320 bt323.2.2.2 true bt307.1 bt307.2.1 bt307.2.2.1 bt323.1 bt323.2.1 bt323.2.2.1)))))))))))) = some r := H
   have A8 := za A80
   clear A80
   by_cases c9 : t297 < 0
   ·rw [if_pos c9] at H
    have c9b0 : decide (t297 < 0) = true := decide_eq_true c9
    clear c9
    obtain rfl := Option.some.inj H
    go_enter Try.func3, Try.ntmps3
    go_wp2_with (first | ((with_reducible refine gate_callee (f := 5) rfl ?_); refine goesL_ (some 25) rfl rfl Try.func5 zG83 rfl #[.slice A0 l0.length c0, .int .i64 1048576] rfl zG67 ?_; (with_reducible refine (laws_szSourceS.calls k _ _ l0 1048576 t296 _ ?side1 ?side2 A5.out).mono ?_); (case side1 => repeat (first | exact HR0.out | (with_reducible refine zs ?_ _) | (with_reducible refine zt ?_ _) | (with_reducible refine zu ?_))); (case side2 => exact HC0.out); rintro e w10 ⟨rfl, hb⟩; refine ⟨_, rfl, ?_⟩; have n0_ := za (zq zG72 hb); clear HB; have HB := n0_; clear n0_; (try clear hb); (try clear hb2); (try clear hk); (try clear hi)) | ((with_reducible refine gate_callee (f := 6) rfl ?_); refine goesL_ (some 30) rfl rfl Try.func6 zG83 rfl #[.slice A1 l1.length c1, .int .i64 t296] rfl zG67 ?_; (with_reducible refine (laws_szStockedS.calls k _ _ l1 t296 t297 _ ?side1 ?side2 A8.out).mono ?_); (case side1 => repeat (first | exact (zw HR1.out HB.out) | (with_reducible refine zs ?_ _) | (with_reducible refine zt ?_ _) | (with_reducible refine zu ?_))); (case side2 => exact HC1.out); rintro e w11 ⟨rfl, hb⟩; refine ⟨_, rfl, ?_⟩; have n0_ := za (zq zG72 hb); clear HB; have HB := n0_; clear n0_; (try clear hb); (try clear hb2); (try clear hk); (try clear hi)))
    go_ret
    exact ⟨by first | rfl | (simp [errW_none, errW_some] <;> rfl) | (simp [*, errW_none, errW_some] <;> rfl), by repeat (first | (with_reducible first | exact HB.out | apply zd | apply zb | apply zc) | exact HB.out)⟩
   ·rw [if_neg c9] at H
    have c9b0 : decide (t297 < 0) = false := decide_eq_false c9
    clear c9
    replace H := Option.bind_eq_some_iff.mp H
    obtain ⟨t298, A120, H⟩ := H
    replace H : ((laws_toStockedS.f k l1).bind fun t301 => ((laws_toIntS.f k l2).bind fun t304 => ((spec_SourceOf.f k t298 t301 t304).bind fun bt307 => ((laws_toSourceS.f k l0).bind fun t314 => ((laws_toStockedS.f k l1).bind fun t317 => ((laws_toIntS.f k l2).bind fun t320 => ((impl_SourceOf.f k t314 t317 t320).bind fun bt323 => ((laws_eqSourcing.f k bt323.1 bt323.2.1 bt323.2.2.1 bt307.1 bt307.2.1 bt307.2.2.1).bind fun t330 => (if t330 = true then (laws_FnExactSourceOf.j0 k l0 l1 l2 bt307.2.2.2 t314 t317 t320 bt323.2.2.2 (bt323.2.2.2 != bt307.2.2.2) bt307.1 bt307.2.1 bt307.2.2.1 bt323.1 bt323.2.1 bt323.2.2.1) else (laws_FnExactSourceOf.j0 k l0 l1 l2 bt307.2.2.2 t314 t317 t320 bt323.2.2.2 true bt307.1 bt307.2.1 bt307.2.2.1 bt323.1 bt323.2.1 bt323.2.2.1)))))))))) = some r := H
    have A12 := za A120
    clear A120
    replace H := Option.bind_eq_some_iff.mp H
    obtain ⟨t301, A130, H⟩ := H
    replace H : ((laws_toIntS.f k l2).bind fun t304 => ((spec_SourceOf.f k t298 t301 t304).bind fun bt307 => ((laws_toSourceS.f k l0).bind fun t314 => ((laws_toStockedS.f k l1).bind fun t317 => ((laws_toIntS.f k l2).bind fun t320 => ((impl_SourceOf.f k t314 t317 t320).bind fun bt323 => ((laws_eqSourcing.f k bt323.1 bt323.2.1 bt323.2.2.1 bt307.1 bt307.2.1 bt307.2.2.1).bind fun t330 => (if t330 = true then (laws_FnExactSourceOf.j0 k l0 l1 l2 bt307.2.2.2 t314 t317 t320 bt323.2.2.2 (bt323.2.2.2 != bt307.2.2.2) bt307.1 bt307.2.1 bt307.2.2.1 bt323.1 bt323.2.1 bt323.2.2.1) else (laws_FnExactSourceOf.j0 k l0 l1 l2 bt307.2.2.2 t314 t317 t320 bt323.2.2.2 true bt307.1 bt307.2.1 bt307.2.2.1 bt323.1 bt323.2.1 bt323.2.2.1))))))))) = some r := H
    have A13 := za A130
    clear A130
    replace H := Option.bind_eq_some_iff.mp H
    obtain ⟨t304, A140, H⟩ := H
    replace H : ((spec_SourceOf.f k t298 t301 t304).bind fun bt307 => ((laws_toSourceS.f k l0).bind fun t314 => ((laws_toStockedS.f k l1).bind fun t317 => ((laws_toIntS.f k l2).bind fun t320 => ((impl_SourceOf.f k t314 t317 t320).bind fun bt323 => ((laws_eqSourcing.f k bt323.1 bt323.2.1 bt323.2.2.1 bt307.1 bt307.2.1 bt307.2.2.1).bind fun t330 => (if t330 = true then (laws_FnExactSourceOf.j0 k l0 l1 l2 bt307.2.2.2 t314 t317 t320 bt323.2.2.2 (bt323.2.2.2 != bt307.2.2.2) bt307.1 bt307.2.1 bt307.2.2.1 bt323.1 bt323.2.1 bt323.2.2.1) else (laws_FnExactSourceOf.j0 k l0 l1 l2 bt307.2.2.2 t314 t317 t320 bt323.2.2.2 true bt307.1 bt307.2.1 bt307.2.2.1 bt323.1 bt323.2.1 bt323.2.2.1)))))))) = some r := H
    have A14 := za A140
    clear A140
    replace H := Option.bind_eq_some_iff.mp H
    obtain ⟨⟨t307, t310, t311, t312⟩, A150, H⟩ := H
    replace H : ((laws_toSourceS.f k l0).bind fun t314 => ((laws_toStockedS.f k l1).bind fun t317 => ((laws_toIntS.f k l2).bind fun t320 => ((impl_SourceOf.f k t314 t317 t320).bind fun bt323 => ((laws_eqSourcing.f k bt323.1 bt323.2.1 bt323.2.2.1 t307 t310 t311).bind fun t330 => (if t330 = true then (laws_FnExactSourceOf.j0 k l0 l1 l2 t312 t314 t317 t320 bt323.2.2.2 (bt323.2.2.2 != t312) t307 t310 t311 bt323.1 bt323.2.1 bt323.2.2.1) else (laws_FnExactSourceOf.j0 k l0 l1 l2 t312 t314 t317 t320 bt323.2.2.2 true t307 t310 t311 bt323.1 bt323.2.1 bt323.2.2.1))))))) = some r := H
    have A15 := za A150
    clear A150
    replace H := Option.bind_eq_some_iff.mp H
    obtain ⟨t314, A160, H⟩ := H
    replace H : ((laws_toStockedS.f k l1).bind fun t317 => ((laws_toIntS.f k l2).bind fun t320 => ((impl_SourceOf.f k t314 t317 t320).bind fun bt323 => ((laws_eqSourcing.f k bt323.1 bt323.2.1 bt323.2.2.1 t307 t310 t311).bind fun t330 => (if t330 = true then (laws_FnExactSourceOf.j0 k l0 l1 l2 t312 t314 t317 t320 bt323.2.2.2 (bt323.2.2.2 != t312) t307 t310 t311 bt323.1 bt323.2.1 bt323.2.2.1) else (laws_FnExactSourceOf.j0 k l0 l1 l2 t312 t314 t317 t320 bt323.2.2.2 true t307 t310 t311 bt323.1 bt323.2.1 bt323.2.2.1)))))) = some r := H
    have A16 := za A160
    clear A160
    replace H := Option.bind_eq_some_iff.mp H
    obtain ⟨t317, A170, H⟩ := H
    replace H : ((laws_toIntS.f k l2).bind fun t320 => ((impl_SourceOf.f k t314 t317 t320).bind fun bt323 => ((laws_eqSourcing.f k bt323.1 bt323.2.1 bt323.2.2.1 t307 t310 t311).bind fun t330 => (if t330 = true then (laws_FnExactSourceOf.j0 k l0 l1 l2 t312 t314 t317 t320 bt323.2.2.2 (bt323.2.2.2 != t312) t307 t310 t311 bt323.1 bt323.2.1 bt323.2.2.1) else (laws_FnExactSourceOf.j0 k l0 l1 l2 t312 t314 t317 t320 bt323.2.2.2 true t307 t310 t311 bt323.1 bt323.2.1 bt323.2.2.1))))) = some r := H
    have A17 := za A170
    clear A170
    replace H := Option.bind_eq_some_iff.mp H
    obtain ⟨t320, A180, H⟩ := H
    replace H : ((impl_SourceOf.f k t314 t317 t320).bind fun bt323 => ((laws_eqSourcing.f k bt323.1 bt323.2.1 bt323.2.2.1 t307 t310 t311).bind fun t330 => (if t330 = true then (laws_FnExactSourceOf.j0 k l0 l1 l2 t312 t314 t317 t320 bt323.2.2.2 (bt323.2.2.2 != t312) t307 t310 t311 bt323.1 bt323.2.1 bt323.2.2.1) else (laws_FnExactSourceOf.j0 k l0 l1 l2 t312 t314 t317 t320 bt323.2.2.2 true t307 t310 t311 bt323.1 bt323.2.1 bt323.2.2.1)))) = some r := H
    have A18 := za A180
    clear A180
    replace H := Option.bind_eq_some_iff.mp H
    obtain ⟨⟨t323, t326, t327, t328⟩, A190, H⟩ := H
    replace H : ((laws_eqSourcing.f k t323 t326 t327 t307 t310 t311).bind fun t330 => (if t330 = true then (laws_FnExactSourceOf.j0 k l0 l1 l2 t312 t314 t317 t320 t328 (t328 != t312) t307 t310 t311 t323 t326 t327) else (laws_FnExactSourceOf.j0 k l0 l1 l2 t312 t314 t317 t320 t328 true t307 t310 t311 t323 t326 t327))) = some r := H
    have A19 := za A190
    clear A190
    have HC20 := za H
    clear H
    go_enter Try.func3, Try.ntmps3
    go_upto_region 15 with (first | ((with_reducible refine gate_callee (f := 5) rfl ?_); refine goesL_ (some 25) rfl rfl Try.func5 zG83 rfl #[.slice A0 l0.length c0, .int .i64 1048576] rfl zG67 ?_; (with_reducible refine (laws_szSourceS.calls k _ _ l0 1048576 t296 _ ?side1 ?side2 A5.out).mono ?_); (case side1 => repeat (first | exact HR0.out | (with_reducible refine zs ?_ _) | (with_reducible refine zt ?_ _) | (with_reducible refine zu ?_))); (case side2 => exact HC0.out); rintro e w21 ⟨rfl, hb⟩; refine ⟨_, rfl, ?_⟩; have n0_ := za (zq zG72 hb); clear HB; have HB := n0_; clear n0_; (try clear hb); (try clear hb2); (try clear hk); (try clear hi)) | ((with_reducible refine gate_callee (f := 6) rfl ?_); refine goesL_ (some 30) rfl rfl Try.func6 zG83 rfl #[.slice A1 l1.length c1, .int .i64 t296] rfl zG67 ?_; (with_reducible refine (laws_szStockedS.calls k _ _ l1 t296 t297 _ ?side1 ?side2 A8.out).mono ?_); (case side1 => repeat (first | exact (zw HR1.out HB.out) | (with_reducible refine zs ?_ _) | (with_reducible refine zt ?_ _) | (with_reducible refine zu ?_))); (case side2 => exact HC1.out); rintro e w22 ⟨rfl, hb⟩; refine ⟨_, rfl, ?_⟩; have n0_ := za (zq zG72 hb); clear HB; have HB := n0_; clear n0_; (try clear hb); (try clear hb2); (try clear hk); (try clear hi)) | ((with_reducible refine gate_callee (f := 8) rfl ?_); refine goesL_ (some 35) rfl rfl Try.func8 zG83 rfl #[.slice A0 l0.length c0] rfl zG67 ?_; (with_reducible refine (laws_toSourceS.calls k _ _ l0 t298 _ ?side1 ?side2 A12.out).mono ?_); (case side1 => repeat (first | exact (zw HR0.out HB.out) | (with_reducible refine zs ?_ _) | (with_reducible refine zt ?_ _) | (with_reducible refine zu ?_))); (case side2 => exact HC0.out); rintro e w23 ⟨v299, rfl, ho0, hb⟩; refine ⟨_, rfl, ?_⟩; have n0_ := za (zbe ho0 (zo zG72)); have n1_ := za (zq zG72 hb); clear HB; have HO300 := n0_; have HB := n1_; clear n0_ n1_; (try clear hb); (try clear hb2); (try clear hk); (try clear hi); (try clear ho0)) | ((with_reducible refine gate_callee (f := 9) rfl ?_); refine goesL_ (some 37) rfl rfl Try.func9 zG83 rfl #[.slice A1 l1.length c1] rfl zG67 ?_; (with_reducible refine (laws_toStockedS.calls k _ _ l1 t301 _ ?side1 ?side2 A13.out).mono ?_); (case side1 => repeat (first | exact (zw HR1.out HB.out) | (with_reducible refine zs ?_ _) | (with_reducible refine zt ?_ _) | (with_reducible refine zu ?_))); (case side2 => exact HC1.out); rintro e w24 ⟨v302, rfl, ho0, hb⟩; refine ⟨_, rfl, ?_⟩; have n0_ := za (zaq (by (with_reducible repeat (first | apply zz | apply zaa | apply zab)); exact HO300.out) (zah ho0) hb); have n1_ := za (zaj ho0 (zo zG72)); have n2_ := za (zq zG72 hb); clear HO300; clear HB; have HO300 := n0_; have HO303 := n1_; have HB := n2_; clear n0_ n1_ n2_; (try clear hb); (try clear hb2); (try clear hk); (try clear hi); (try clear ho0)) | ((with_reducible refine gate_callee (f := 10) rfl ?_); refine goesL_ (some 39) rfl rfl Try.func10 zG83 rfl #[.slice A2 l2.length c2] rfl zG67 ?_; (with_reducible refine (laws_toIntS.calls k _ _ l2 t304 _ ?side1 ?side2 A14.out).mono ?_); (case side1 => repeat (first | exact (zw HR2.out HB.out) | (with_reducible refine zs ?_ _) | (with_reducible refine zt ?_ _) | (with_reducible refine zu ?_))); (case side2 => exact HC2.out); rintro e w25 ⟨v305, rfl, ho0, hb⟩; refine ⟨_, rfl, ?_⟩; have n0_ := za (zae (by (with_reducible repeat (first | apply zz | apply zaa | apply zab)); exact HO300.out) hb); have n1_ := za (zp (by (with_reducible repeat (first | apply zk | apply zl | apply zn)); exact HO303.out) hb); have n2_ := za (zaj ho0 (zo zG72)); have n3_ := za (zq zG72 hb); clear HO300; clear HO303; clear HB; have HO300 := n0_; have HO303 := n1_; have HO306 := n2_; have HB := n3_; clear n0_ n1_ n2_ n3_; (try clear hb); (try clear hb2); (try clear hk); (try clear hi); (try clear ho0); obtain ⟨Ao26, co26, eo26⟩ := zbh HO300.out; subst eo26; obtain ⟨Ao27, co27, eo27⟩ := zaf HO303.out; subst eo27; obtain ⟨Ao28, co28, eo28⟩ := zaf HO306.out; subst eo28) | ((with_reducible refine gate_callee (f := 7) rfl ?_); refine goesL_ (some 40) rfl rfl Try.func7 zG83 rfl #[.slice Ao26 t298.length co26, .slice Ao27 t301.length co27, .slice Ao28 t304.length co28] rfl zG67 ?_; (with_reducible refine (spec_SourceOf.calls k _ _ t298 _ _ t301 _ _ t304 t307 t310 t311 t312 _ ?side1 ?side2 ?side3 ?side4 ?side5 ?side6 A15.out).mono ?_); (case side1 => repeat (first | exact (zai HO300.out).2.2 | (with_reducible refine zs ?_ _) | (with_reducible refine zt ?_ _) | (with_reducible refine zu ?_))); (case side2 => exact (zai HO300.out).2.1); (case side3 => repeat (first | exact (Kd.R_reads' HO303.out).2.2 | (with_reducible refine zs ?_ _) | (with_reducible refine zt ?_ _) | (with_reducible refine zu ?_))); (case side4 => exact (Kd.R_reads' HO303.out).2.1); (case side5 => repeat (first | exact (Kd.R_reads' HO306.out).2.2 | (with_reducible refine zs ?_ _) | (with_reducible refine zt ?_ _) | (with_reducible refine zu ?_))); (case side6 => exact (Kd.R_reads' HO306.out).2.1); rintro e w29 ⟨v308, rfl, ho0, hb⟩; refine ⟨_, rfl, ?_⟩; have n0_ := za (zae (by (with_reducible repeat (first | apply zz | apply zaa | apply zab)); exact HO300.out) hb); have n1_ := za (zp (by (with_reducible repeat (first | apply zk | apply zl | apply zn)); exact HO303.out) hb); have n2_ := za (zak (by (with_reducible repeat (first | apply zk | apply zl | apply zn)); exact HO306.out) (zah ho0) hb); have n3_ := za (zaj (zao ho0 (zap (by (with_reducible repeat (first | apply zk | apply zl | apply zn)); exact HO306.out))) (zo zG72)); have n4_ := za (zq zG72 hb); clear HO300; clear HO303; clear HO306; clear HB; have HO300 := n0_; have HO303 := n1_; have HO306 := n2_; have HO309 := n3_; have HB := n4_; clear n0_ n1_ n2_ n3_ n4_; (try clear hb); (try clear hb2); (try clear hk); (try clear hi); (try clear ho0)) | ((with_reducible refine gate_dst (N := 8) rfl ?_); refine box_event ?hg (N := 8) ?hd (cs := #[.slice none 0 0, .int .i64 0, .int .i64 0]) (t := 28) ?hr ?_; (case hd => rfl); (case hg => rfl); (case hr => first | (go_simp; done) | (go_simp; rfl)); intro gb313 hg w30 hbox hb; have n0_ := za (zae (by (with_reducible repeat (first | apply zz | apply zaa | apply zab)); exact HO300.out) hb); have n1_ := za (zp (by (with_reducible repeat (first | apply zk | apply zl | apply zn)); exact HO303.out) hb); have n2_ := za (zp (by (with_reducible repeat (first | apply zk | apply zl | apply zn)); exact HO306.out) hb); have n3_ := za (zp (by (with_reducible repeat (first | apply zk | apply zl | apply zn)); exact HO309.out) hb); have n4_ := za (zq zG72 hb); have n5_ := za (hbox); have n6_ := za ((by rw [hg]; exact (zo zG72) : w.heap.size ≤ gb313)); have n7_ := za ((by rw [hg]; exact (zo zG72) : w.heap.size ≤ gb313)); clear HO300; clear HO303; clear HO306; clear HO309; clear HB; have HO300 := n0_; have HO303 := n1_; have HO306 := n2_; have HO309 := n3_; have HB := n4_; have BK313 := n5_; have GW313 := n6_; have GE313 := n7_; clear n0_ n1_ n2_ n3_ n4_ n5_ n6_ n7_; clear hb hbox hg; obtain ⟨Ao31, co31, eo31⟩ := zaf HO309.out; subst eo31; have hcz32_0 : w30.cell? ⟨gb313, 0, none⟩ = some (.slice none 0 0) := (zm BK313.out 0).trans rfl; have hcz32_1 : w30.cell? ⟨gb313, 1, none⟩ = some (.int .i64 0) := (zm BK313.out 1).trans rfl; have hcz32_2 : w30.cell? ⟨gb313, 2, none⟩ = some (.int .i64 0) := (zm BK313.out 2).trans rfl; have hfz32_0 := zj BK313.out 0; have hfz32_1 := zj BK313.out 1; have hfz32_2 := zj BK313.out 2) | ((with_reducible refine gate_callee (f := 8) rfl ?_); refine goesL_ (some 44) rfl rfl Try.func8 zG83 rfl #[.slice A0 l0.length c0] rfl zG67 ?_; (with_reducible refine (laws_toSourceS.calls k _ _ l0 t314 _ ?side1 ?side2 A16.out).mono ?_); (case side1 => exact zw HR0.out zG70); (case side2 => exact HC0.out); rintro e w33 ⟨v315, rfl, ho0, hb⟩; refine ⟨_, rfl, ?_⟩; have n0_ := za (zaq (by (with_reducible repeat (first | apply zz | apply zaa | apply zab)); exact (zau (zam (p := ⟨gb313, 2, none⟩) (zam (p := ⟨gb313, 1, none⟩) (zam (p := ⟨gb313, 0, none⟩) (zbf HO300.out BK313.out (by decide)) (fun _ hk => hk.2) (.slice Ao31 t307.length co31)) (fun _ hk => hk.2) (.int .i64 t310)) (fun _ hk => hk.2) (.int .i64 t311)) (fun _ h_ => h_.1))) (Kd.S_base ho0) hb); have n1_ := za (zp (by (with_reducible repeat (first | apply zk | apply zl | apply zn)); exact (zx (zv (p := ⟨gb313, 2, none⟩) (zv (p := ⟨gb313, 1, none⟩) (zv (p := ⟨gb313, 0, none⟩) (zac HO303.out BK313.out (by decide)) (fun _ hk => hk.2) (.slice Ao31 t307.length co31)) (fun _ hk => hk.2) (.int .i64 t310)) (fun _ hk => hk.2) (.int .i64 t311)) (fun _ h_ => h_.1))) hb); have n2_ := za (zp (by (with_reducible repeat (first | apply zk | apply zl | apply zn)); exact (zx (zv (p := ⟨gb313, 2, none⟩) (zv (p := ⟨gb313, 1, none⟩) (zv (p := ⟨gb313, 0, none⟩) (zac HO306.out BK313.out (by decide)) (fun _ hk => hk.2) (.slice Ao31 t307.length co31)) (fun _ hk => hk.2) (.int .i64 t310)) (fun _ hk => hk.2) (.int .i64 t311)) (fun _ h_ => h_.1))) hb); have n3_ := za (zp (by (with_reducible repeat (first | apply zk | apply zl | apply zn)); exact (zx (zv (p := ⟨gb313, 2, none⟩) (zv (p := ⟨gb313, 1, none⟩) (zv (p := ⟨gb313, 0, none⟩) (zac HO309.out BK313.out (by decide)) (fun _ hk => hk.2) (.slice Ao31 t307.length co31)) (fun _ hk => hk.2) (.int .i64 t310)) (fun _ hk => hk.2) (.int .i64 t311)) (fun _ h_ => h_.1))) hb); have n4_ := za (zbe (zay (zay ho0 (Kd.S_lt (by (with_reducible repeat (first | apply zz | apply zaa | apply zab)); exact (zau (zam (p := ⟨gb313, 2, none⟩) (zam (p := ⟨gb313, 1, none⟩) (zam (p := ⟨gb313, 0, none⟩) (zbf HO300.out BK313.out (by decide)) (fun _ hk => hk.2) (.slice Ao31 t307.length co31)) (fun _ hk => hk.2) (.int .i64 t310)) (fun _ hk => hk.2) (.int .i64 t311)) (fun _ h_ => h_.1))))) (zap (by (with_reducible repeat (first | apply zk | apply zl | apply zn)); exact (zx (zv (p := ⟨gb313, 2, none⟩) (zv (p := ⟨gb313, 1, none⟩) (zv (p := ⟨gb313, 0, none⟩) (zac HO303.out BK313.out (by decide)) (fun _ hk => hk.2) (.slice Ao31 t307.length co31)) (fun _ hk => hk.2) (.int .i64 t310)) (fun _ hk => hk.2) (.int .i64 t311)) (fun _ h_ => h_.1))))) (zo zG70)); have n5_ := za (zr (g := gb313) (o := .cells #[.slice Ao31 t307.length co31, .int .i64 t310, .int .i64 t311] 28 (0, 0)) (by (with_reducible repeat (first | refine zh ?_ _ | refine zi ?_ | refine zg ?_ _)); refine zy (cs := #[.slice Ao31 t307.length co31, .int .i64 t310, .int .i64 0]) ?_ 2 _ rfl; (with_reducible repeat (first | refine zh ?_ _ | refine zi ?_ | refine zg ?_ _)); refine zy (cs := #[.slice Ao31 t307.length co31, .int .i64 0, .int .i64 0]) ?_ 1 _ rfl; (with_reducible repeat (first | refine zh ?_ _ | refine zi ?_ | refine zg ?_ _)); refine zy (cs := #[.slice none 0 0, .int .i64 0, .int .i64 0]) ?_ 0 _ rfl; (with_reducible repeat (first | refine zh ?_ _ | refine zi ?_ | refine zg ?_ _)); exact BK313.out) hb); have n6_ := za (zq zG70 hb); clear HO300; clear HO303; clear HO306; clear HO309; clear BK313; clear HB; have HO300 := n0_; have HO303 := n1_; have HO306 := n2_; have HO309 := n3_; have HO316 := n4_; have BK313 := n5_; have HB := n6_; clear n0_ n1_ n2_ n3_ n4_ n5_ n6_; (try clear hb); (try clear hb2); (try clear hk); (try clear hi); (try clear ho0)) | ((with_reducible refine gate_callee (f := 9) rfl ?_); refine goesL_ (some 46) rfl rfl Try.func9 zG83 rfl #[.slice A1 l1.length c1] rfl zG67 ?_; (with_reducible refine (laws_toStockedS.calls k _ _ l1 t317 _ ?side1 ?side2 A17.out).mono ?_); (case side1 => repeat (first | exact (zw HR1.out HB.out) | (with_reducible refine zs ?_ _) | (with_reducible refine zt ?_ _) | (with_reducible refine zu ?_))); (case side2 => exact HC1.out); rintro e w34 ⟨v318, rfl, ho0, hb⟩; refine ⟨_, rfl, ?_⟩; have n0_ := za (zaq (by (with_reducible repeat (first | apply zz | apply zaa | apply zab)); exact HO300.out) (zah ho0) hb); have n1_ := za (zak (by (with_reducible repeat (first | apply zk | apply zl | apply zn)); exact HO303.out) (zah ho0) hb); have n2_ := za (zp (by (with_reducible repeat (first | apply zk | apply zl | apply zn)); exact HO306.out) hb); have n3_ := za (zp (by (with_reducible repeat (first | apply zk | apply zl | apply zn)); exact HO309.out) hb); have n4_ := za (zaq (by (with_reducible repeat (first | apply zz | apply zaa | apply zab)); exact HO316.out) (zah ho0) hb); have n5_ := za (zaj (zao ho0 (zap (by (with_reducible repeat (first | apply zk | apply zl | apply zn)); exact HO303.out))) (zo zG70)); have n6_ := za (zr (g := gb313) (o := .cells #[.slice Ao31 t307.length co31, .int .i64 t310, .int .i64 t311] 28 (0, 0)) zG74 hb); have n7_ := za (zq zG70 hb); clear HO300; clear HO303; clear HO306; clear HO309; clear HO316; clear BK313; clear HB; have HO300 := n0_; have HO303 := n1_; have HO306 := n2_; have HO309 := n3_; have HO316 := n4_; have HO319 := n5_; have BK313 := n6_; have HB := n7_; clear n0_ n1_ n2_ n3_ n4_ n5_ n6_ n7_; (try clear hb); (try clear hb2); (try clear hk); (try clear hi); (try clear ho0)) | ((with_reducible refine gate_callee (f := 10) rfl ?_); refine goesL_ (some 48) rfl rfl Try.func10 zG83 rfl #[.slice A2 l2.length c2] rfl zG67 ?_; (with_reducible refine (laws_toIntS.calls k _ _ l2 t320 _ ?side1 ?side2 A18.out).mono ?_); (case side1 => repeat (first | exact (zw HR2.out HB.out) | (with_reducible refine zs ?_ _) | (with_reducible refine zt ?_ _) | (with_reducible refine zu ?_))); (case side2 => exact HC2.out); rintro e w35 ⟨v321, rfl, ho0, hb⟩; refine ⟨_, rfl, ?_⟩; have n0_ := za (zae (by (with_reducible repeat (first | apply zz | apply zaa | apply zab)); exact HO300.out) hb); have n1_ := za (zp (by (with_reducible repeat (first | apply zk | apply zl | apply zn)); exact HO303.out) hb); have n2_ := za (zak (by (with_reducible repeat (first | apply zk | apply zl | apply zn)); exact HO306.out) (zah ho0) hb); have n3_ := za (zak (by (with_reducible repeat (first | apply zk | apply zl | apply zn)); exact HO309.out) (zah ho0) hb); have n4_ := za (zae (by (with_reducible repeat (first | apply zz | apply zaa | apply zab)); exact HO316.out) hb); have n5_ := za (zp (by (with_reducible repeat (first | apply zk | apply zl | apply zn)); exact HO319.out) hb); have n6_ := za (zaj (zao (zao ho0 (zap (by (with_reducible repeat (first | apply zk | apply zl | apply zn)); exact HO306.out))) (zap (by (with_reducible repeat (first | apply zk | apply zl | apply zn)); exact HO309.out))) (zo zG70)); have n7_ := za (zr (g := gb313) (o := .cells #[.slice Ao31 t307.length co31, .int .i64 t310, .int .i64 t311] 28 (0, 0)) zG74 hb); have n8_ := za (zq zG70 hb); clear HO300; clear HO303; clear HO306; clear HO309; clear HO316; clear HO319; clear BK313; clear HB; have HO300 := n0_; have HO303 := n1_; have HO306 := n2_; have HO309 := n3_; have HO316 := n4_; have HO319 := n5_; have HO322 := n6_; have BK313 := n7_; have HB := n8_; clear n0_ n1_ n2_ n3_ n4_ n5_ n6_ n7_ n8_; (try clear hb); (try clear hb2); (try clear hk); (try clear hi); (try clear ho0); obtain ⟨Ao36, co36, eo36⟩ := zbh HO316.out; subst eo36; obtain ⟨Ao37, co37, eo37⟩ := zaf HO319.out; subst eo37; obtain ⟨Ao38, co38, eo38⟩ := zaf HO322.out; subst eo38) | ((with_reducible refine gate_callee (f := 11) rfl ?_); refine goesL_ (some 53) rfl rfl Try.func11 zG83 rfl #[.slice Ao36 t314.length co36, .slice Ao37 t317.length co37, .slice Ao38 t320.length co38] rfl zG67 ?_; (with_reducible refine (impl_SourceOf.calls k _ _ t314 _ _ t317 _ _ t320 t323 t326 t327 t328 _ ?side1 ?side2 ?side3 ?side4 ?side5 ?side6 A19.out).mono ?_); (case side1 => repeat (first | exact (zai HO316.out).2.2 | (with_reducible refine zs ?_ _) | (with_reducible refine zt ?_ _) | (with_reducible refine zu ?_))); (case side2 => exact (zai HO316.out).2.1); (case side3 => repeat (first | exact (Kd.R_reads' HO319.out).2.2 | (with_reducible refine zs ?_ _) | (with_reducible refine zt ?_ _) | (with_reducible refine zu ?_))); (case side4 => exact (Kd.R_reads' HO319.out).2.1); (case side5 => repeat (first | exact (Kd.R_reads' HO322.out).2.2 | (with_reducible refine zs ?_ _) | (with_reducible refine zt ?_ _) | (with_reducible refine zu ?_))); (case side6 => exact (Kd.R_reads' HO322.out).2.1); rintro e w39 ⟨v324, rfl, ho0, hb⟩; refine ⟨_, rfl, ?_⟩; have n0_ := za (zae (by (with_reducible repeat (first | apply zz | apply zaa | apply zab)); exact HO300.out) hb); have n1_ := za (zp (by (with_reducible repeat (first | apply zk | apply zl | apply zn)); exact HO303.out) hb); have n2_ := za (zak (by (with_reducible repeat (first | apply zk | apply zl | apply zn)); exact HO306.out) (zah ho0) hb); have n3_ := za (zak (by (with_reducible repeat (first | apply zk | apply zl | apply zn)); exact HO309.out) (zah ho0) hb); have n4_ := za (zae (by (with_reducible repeat (first | apply zz | apply zaa | apply zab)); exact HO316.out) hb); have n5_ := za (zp (by (with_reducible repeat (first | apply zk | apply zl | apply zn)); exact HO319.out) hb); have n6_ := za (zak (by (with_reducible repeat (first | apply zk | apply zl | apply zn)); exact HO322.out) (zah ho0) hb); have n7_ := za (zaj (zao (zao (zao ho0 (zap (by (with_reducible repeat (first | apply zk | apply zl | apply zn)); exact HO306.out))) (zap (by (with_reducible repeat (first | apply zk | apply zl | apply zn)); exact HO309.out))) (zap (by (with_reducible repeat (first | apply zk | apply zl | apply zn)); exact HO322.out))) (zo zG70)); have n8_ := za (zr (g := gb313) (o := .cells #[.slice Ao31 t307.length co31, .int .i64 t310, .int .i64 t311] 28 (0, 0)) zG74 hb); have n9_ := za (zq zG70 hb); clear HO300; clear HO303; clear HO306; clear HO309; clear HO316; clear HO319; clear HO322; clear BK313; clear HB; have HO300 := n0_; have HO303 := n1_; have HO306 := n2_; have HO309 := n3_; have HO316 := n4_; have HO319 := n5_; have HO322 := n6_; have HO325 := n7_; have BK313 := n8_; have HB := n9_; clear n0_ n1_ n2_ n3_ n4_ n5_ n6_ n7_ n8_ n9_; (try clear hb); (try clear hb2); (try clear hk); (try clear hi); (try clear ho0)) | ((with_reducible refine gate_dst (N := 13) rfl ?_); refine box_event ?hg (N := 13) ?hd (cs := #[.slice none 0 0, .int .i64 0, .int .i64 0]) (t := 28) ?hr ?_; (case hd => rfl); (case hg => rfl); (case hr => first | (go_simp; done) | (go_simp; rfl)); intro gb329 hg w40 hbox hb; have n0_ := za (zae (by (with_reducible repeat (first | apply zz | apply zaa | apply zab)); exact HO300.out) hb); have n1_ := za (zp (by (with_reducible repeat (first | apply zk | apply zl | apply zn)); exact HO303.out) hb); have n2_ := za (zp (by (with_reducible repeat (first | apply zk | apply zl | apply zn)); exact HO306.out) hb); have n3_ := za (zp (by (with_reducible repeat (first | apply zk | apply zl | apply zn)); exact HO309.out) hb); have n4_ := za (zae (by (with_reducible repeat (first | apply zz | apply zaa | apply zab)); exact HO316.out) hb); have n5_ := za (zp (by (with_reducible repeat (first | apply zk | apply zl | apply zn)); exact HO319.out) hb); have n6_ := za (zp (by (with_reducible repeat (first | apply zk | apply zl | apply zn)); exact HO322.out) hb); have n7_ := za (zp (by (with_reducible repeat (first | apply zk | apply zl | apply zn)); exact HO325.out) hb); have n8_ := za (zr (g := gb313) (o := .cells #[.slice Ao31 t307.length co31, .int .i64 t310, .int .i64 t311] 28 (0, 0)) zG74 hb); have n9_ := za (zq zG70 hb); have n10_ := za (hbox); have n11_ := za ((by rw [hg]; exact (zo zG70) : w.heap.size ≤ gb329)); have n12_ := za ((by rw [hg]; exact (zo zG70) : w.heap.size ≤ gb329)); have n13_ := za ((by rw [hg]; exact Nat.ne_of_lt (zad (g := gb313) (o := .cells #[.slice Ao31 t307.length co31, .int .i64 t310, .int .i64 t311] 28 (0, 0)) zG74) : gb313 ≠ gb329)); have n14_ := za ((by rw [hg]; exact Nat.ne_of_gt (zad (g := gb313) (o := .cells #[.slice Ao31 t307.length co31, .int .i64 t310, .int .i64 t311] 28 (0, 0)) zG74) : gb329 ≠ gb313)); clear HO300; clear HO303; clear HO306; clear HO309; clear HO316; clear HO319; clear HO322; clear HO325; clear BK313; clear HB; have HO300 := n0_; have HO303 := n1_; have HO306 := n2_; have HO309 := n3_; have HO316 := n4_; have HO319 := n5_; have HO322 := n6_; have HO325 := n7_; have BK313 := n8_; have HB := n9_; have BK329 := n10_; have GW329 := n11_; have GE329 := n12_; have NB313_329 := n13_; have NB329_313 := n14_; clear n0_ n1_ n2_ n3_ n4_ n5_ n6_ n7_ n8_ n9_ n10_ n11_ n12_ n13_ n14_; clear hb hbox hg; obtain ⟨Ao41, co41, eo41⟩ := zaf HO325.out; subst eo41; have hnb42 := NB329_313.out; have hnc42 := NB313_329.out; have hcz43_0 : w40.cell? ⟨gb329, 0, none⟩ = some (.slice none 0 0) := (zm BK329.out 0).trans rfl; have hcz43_1 : w40.cell? ⟨gb329, 1, none⟩ = some (.int .i64 0) := (zm BK329.out 1).trans rfl; have hcz43_2 : w40.cell? ⟨gb329, 2, none⟩ = some (.int .i64 0) := (zm BK329.out 2).trans rfl; have hfz43_0 := zj BK329.out 0; have hfz43_1 := zj BK329.out 1; have hfz43_2 := zj BK329.out 2))
    (try simp only [Act.put, List.setIfInBounds_toArray, List.set_cons_zero, List.set_cons_succ])
    go_cut [64] (fun v64 wc => ∃ (kq : Nat) (x64_19 : Bool), v64 = .bool x64_19 ∧ Aside0 (laws_FnExactSourceOf.j0 kq l0 l1 l2 t312 t314 t317 t320 t328 x64_19 t307 t310 t311 t323 t326 t327 = some r) ∧ Aside0 (kq ≤ k) ∧ Aside0 (Kd.S k75 75 wc w.heap.size (fun k_ => some k_ ≠ ((.slice Ao37 t317.length co37) : Value).ownBlock) (.slice Ao36 t314.length co36) t314) ∧ Aside0 (Kd.R k76 76 wc w.heap.size (fun _ => True) (.slice Ao37 t317.length co37) t317) ∧ Aside0 (Kd.R (Kd.int .i64) 3 wc w.heap.size (fun k_ => some k_ ≠ ((.slice Ao31 t307.length co31) : Value).ownBlock ∧ some k_ ≠ ((.slice Ao41 t323.length co41) : Value).ownBlock) (.slice Ao38 t320.length co38) t320) ∧ Aside0 (Kd.R (Kd.int .i64) 3 wc w.heap.size (fun k_ => some k_ ≠ ((.slice Ao38 t320.length co38) : Value).ownBlock ∧ some k_ ≠ ((.slice Ao41 t323.length co41) : Value).ownBlock) (.slice Ao31 t307.length co31) t307) ∧ Aside0 (Kd.R (Kd.int .i64) 3 wc w.heap.size (fun k_ => some k_ ≠ ((.slice Ao38 t320.length co38) : Value).ownBlock ∧ some k_ ≠ ((.slice Ao31 t307.length co31) : Value).ownBlock) (.slice Ao41 t323.length co41) t323) ∧ Aside0 (wc.heap[gb313]? = some (.cells #[(.slice Ao31 t307.length co31), .int .i64 t310, .int .i64 t311] 28 (0, 0))) ∧ Aside0 (wc.heap[gb329]? = some (.cells #[(.slice Ao41 t323.length co41), .int .i64 t326, .int .i64 t327] 28 (0, 0))) ∧ Aside0 (Below w.heap.size w wc))
    case first =>
     have H := HC20.out
     clear HC20
     replace H := Option.bind_eq_some_iff.mp H
     obtain ⟨t330, A440, H⟩ := H
     replace H : (if t330 = true then (laws_FnExactSourceOf.j0 k l0 l1 l2 t312 t314 t317 t320 t328 (t328 != t312) t307 t310 t311 t323 t326 t327) else (laws_FnExactSourceOf.j0 k l0 l1 l2 t312 t314 t317 t320 t328 true t307 t310 t311 t323 t326 t327)) = some r := H
     have A44 := za A440
     clear A440
     by_cases c45 : t330 = true
     ·subst c45
      have H1 : (laws_FnExactSourceOf.j0 k l0 l1 l2 t312 t314 t317 t320 t328 (t328 != t312) t307 t310 t311 t323 t326 t327) = some r := by rw [if_pos rfl] at H; exact H
      clear H
      have H := H1
      clear H1
      have H' := za H
      clear H
      have hnb46 := NB329_313.out
      have hnc46 := NB313_329.out
      have hcz47_0 : w40.cell? ⟨gb329, 0, none⟩ = some (.slice none 0 0) := (zm BK329.out 0).trans rfl
      have hcz47_1 : w40.cell? ⟨gb329, 1, none⟩ = some (.int .i64 0) := (zm BK329.out 1).trans rfl
      have hcz47_2 : w40.cell? ⟨gb329, 2, none⟩ = some (.int .i64 0) := (zm BK329.out 2).trans rfl
      have hfz47_0 := zj BK329.out 0
      have hfz47_1 := zj BK329.out 1
      have hfz47_2 := zj BK329.out 2
      have hcz48_0 : w40.cell? ⟨gb313, 0, none⟩ = some (.slice Ao31 t307.length co31) := (zm BK313.out 0).trans rfl
      have hcz48_1 : w40.cell? ⟨gb313, 1, none⟩ = some (.int .i64 t310) := (zm BK313.out 1).trans rfl
      have hcz48_2 : w40.cell? ⟨gb313, 2, none⟩ = some (.int .i64 t311) := (zm BK313.out 2).trans rfl
      have hfz48_0 := zj BK313.out 0
      have hfz48_1 := zj BK313.out 1
      have hfz48_2 := zj BK313.out 2
      go_wp2_with (first | ((with_reducible refine gate_callee (f := 12) rfl ?_); refine goesL_ (some 58) rfl rfl Try.func12 zG83 rfl #[.agg #[.slice Ao41 t323.length co41, .int .i64 t326, .int .i64 t327], .agg #[.slice Ao31 t307.length co31, .int .i64 t310, .int .i64 t311]] rfl zG67 ?_; (with_reducible refine (laws_eqSourcing.calls k _ _ t323 t326 t327 _ _ t307 t310 t311 true _ ?side1 ?side2 ?side3 ?side4 A44.out).mono ?_); (case side1 => refine (Kd.R_reads' (e := 3) (base := w.heap.size) (ok := fun k_ => (((True ∧ some k_ ≠ (.slice Ao28 t304.length co28 : Value).ownBlock) ∧ some k_ ≠ (.slice Ao31 t307.length co31 : Value).ownBlock) ∧ some k_ ≠ (.slice Ao38 t320.length co38 : Value).ownBlock)) (n := t323.length) (c := co41) ?_).2.2; exact (by (with_reducible repeat (first | apply zk | apply zl | apply zn)); exact (zx (zv (p := ⟨gb329, 2, none⟩) (zv (p := ⟨gb329, 1, none⟩) (zv (p := ⟨gb329, 0, none⟩) (zac HO325.out BK329.out (by decide)) (fun _ hk => hk.2) (.slice Ao41 t323.length co41)) (fun _ hk => hk.2) (.int .i64 t326)) (fun _ hk => hk.2) (.int .i64 t327)) (fun _ h_ => h_.1)))); (case side2 => exact (Kd.R_reads' HO325.out).2.1); (case side3 => refine (Kd.R_reads' (e := 3) (base := w.heap.size) (ok := fun k_ => (((True ∧ some k_ ≠ (.slice Ao28 t304.length co28 : Value).ownBlock) ∧ some k_ ≠ (.slice Ao38 t320.length co38 : Value).ownBlock) ∧ some k_ ≠ (.slice Ao41 t323.length co41 : Value).ownBlock)) (n := t307.length) (c := co31) ?_).2.2; exact (by (with_reducible repeat (first | apply zk | apply zl | apply zn)); exact (zx (zv (p := ⟨gb329, 2, none⟩) (zv (p := ⟨gb329, 1, none⟩) (zv (p := ⟨gb329, 0, none⟩) (zac HO309.out BK329.out (by decide)) (fun _ hk => hk.2) (.slice Ao41 t323.length co41)) (fun _ hk => hk.2) (.int .i64 t326)) (fun _ hk => hk.2) (.int .i64 t327)) (fun _ h_ => h_.1)))); (case side4 => exact (Kd.R_reads' HO309.out).2.1); rintro e w49 ⟨rfl, hb⟩; refine ⟨_, rfl, ?_⟩; have n0_ := za (zae (by (with_reducible repeat (first | apply zz | apply zaa | apply zab)); exact (zau (zam (p := ⟨gb329, 2, none⟩) (zam (p := ⟨gb329, 1, none⟩) (zam (p := ⟨gb329, 0, none⟩) (zbf HO300.out BK329.out (by decide)) (fun _ hk => hk.2) (.slice Ao41 t323.length co41)) (fun _ hk => hk.2) (.int .i64 t326)) (fun _ hk => hk.2) (.int .i64 t327)) (fun _ h_ => h_.1))) hb); have n1_ := za (zp (by (with_reducible repeat (first | apply zk | apply zl | apply zn)); exact (zx (zv (p := ⟨gb329, 2, none⟩) (zv (p := ⟨gb329, 1, none⟩) (zv (p := ⟨gb329, 0, none⟩) (zac HO303.out BK329.out (by decide)) (fun _ hk => hk.2) (.slice Ao41 t323.length co41)) (fun _ hk => hk.2) (.int .i64 t326)) (fun _ hk => hk.2) (.int .i64 t327)) (fun _ h_ => h_.1))) hb); have n2_ := za (zp (by (with_reducible repeat (first | apply zk | apply zl | apply zn)); exact (zx (zv (p := ⟨gb329, 2, none⟩) (zv (p := ⟨gb329, 1, none⟩) (zv (p := ⟨gb329, 0, none⟩) (zac HO306.out BK329.out (by decide)) (fun _ hk => hk.2) (.slice Ao41 t323.length co41)) (fun _ hk => hk.2) (.int .i64 t326)) (fun _ hk => hk.2) (.int .i64 t327)) (fun _ h_ => h_.1))) hb); have n3_ := za (zp (by (with_reducible repeat (first | apply zk | apply zl | apply zn)); exact (zx (zv (p := ⟨gb329, 2, none⟩) (zv (p := ⟨gb329, 1, none⟩) (zv (p := ⟨gb329, 0, none⟩) (zac HO309.out BK329.out (by decide)) (fun _ hk => hk.2) (.slice Ao41 t323.length co41)) (fun _ hk => hk.2) (.int .i64 t326)) (fun _ hk => hk.2) (.int .i64 t327)) (fun _ h_ => h_.1))) hb); have n4_ := za (zae (by (with_reducible repeat (first | apply zz | apply zaa | apply zab)); exact (zau (zam (p := ⟨gb329, 2, none⟩) (zam (p := ⟨gb329, 1, none⟩) (zam (p := ⟨gb329, 0, none⟩) (zbf HO316.out BK329.out (by decide)) (fun _ hk => hk.2) (.slice Ao41 t323.length co41)) (fun _ hk => hk.2) (.int .i64 t326)) (fun _ hk => hk.2) (.int .i64 t327)) (fun _ h_ => h_.1))) hb); have n5_ := za (zp (by (with_reducible repeat (first | apply zk | apply zl | apply zn)); exact (zx (zv (p := ⟨gb329, 2, none⟩) (zv (p := ⟨gb329, 1, none⟩) (zv (p := ⟨gb329, 0, none⟩) (zac HO319.out BK329.out (by decide)) (fun _ hk => hk.2) (.slice Ao41 t323.length co41)) (fun _ hk => hk.2) (.int .i64 t326)) (fun _ hk => hk.2) (.int .i64 t327)) (fun _ h_ => h_.1))) hb); have n6_ := za (zp (by (with_reducible repeat (first | apply zk | apply zl | apply zn)); exact (zx (zv (p := ⟨gb329, 2, none⟩) (zv (p := ⟨gb329, 1, none⟩) (zv (p := ⟨gb329, 0, none⟩) (zac HO322.out BK329.out (by decide)) (fun _ hk => hk.2) (.slice Ao41 t323.length co41)) (fun _ hk => hk.2) (.int .i64 t326)) (fun _ hk => hk.2) (.int .i64 t327)) (fun _ h_ => h_.1))) hb); have n7_ := za (zp (by (with_reducible repeat (first | apply zk | apply zl | apply zn)); exact (zx (zv (p := ⟨gb329, 2, none⟩) (zv (p := ⟨gb329, 1, none⟩) (zv (p := ⟨gb329, 0, none⟩) (zac HO325.out BK329.out (by decide)) (fun _ hk => hk.2) (.slice Ao41 t323.length co41)) (fun _ hk => hk.2) (.int .i64 t326)) (fun _ hk => hk.2) (.int .i64 t327)) (fun _ h_ => h_.1))) hb); have n8_ := za (zr (g := gb313) (o := .cells #[.slice Ao31 t307.length co31, .int .i64 t310, .int .i64 t311] 28 (0, 0)) (by (with_reducible repeat (first | refine zh ?_ _ | refine zi ?_ | refine zg ?_ _)); refine zag ?_ NB313_329.out _; (with_reducible repeat (first | refine zh ?_ _ | refine zi ?_ | refine zg ?_ _)); refine zag ?_ NB313_329.out _; (with_reducible repeat (first | refine zh ?_ _ | refine zi ?_ | refine zg ?_ _)); refine zag ?_ NB313_329.out _; (with_reducible repeat (first | refine zh ?_ _ | refine zi ?_ | refine zg ?_ _)); exact BK313.out) hb); have n9_ := za (zr (g := gb329) (o := .cells #[.slice Ao41 t323.length co41, .int .i64 t326, .int .i64 t327] 28 (0, 0)) (by (with_reducible repeat (first | refine zh ?_ _ | refine zi ?_ | refine zg ?_ _)); refine zy (cs := #[.slice Ao41 t323.length co41, .int .i64 t326, .int .i64 0]) ?_ 2 _ rfl; (with_reducible repeat (first | refine zh ?_ _ | refine zi ?_ | refine zg ?_ _)); refine zy (cs := #[.slice Ao41 t323.length co41, .int .i64 0, .int .i64 0]) ?_ 1 _ rfl; (with_reducible repeat (first | refine zh ?_ _ | refine zi ?_ | refine zg ?_ _)); refine zy (cs := #[.slice none 0 0, .int .i64 0, .int .i64 0]) ?_ 0 _ rfl; (with_reducible repeat (first | refine zh ?_ _ | refine zi ?_ | refine zg ?_ _)); exact BK329.out) hb); have n10_ := za (zq zG66 hb); clear HO300; clear HO303; clear HO306; clear HO309; clear HO316; clear HO319; clear HO322; clear HO325; clear BK313; clear BK329; clear HB; have HO300 := n0_; have HO303 := n1_; have HO306 := n2_; have HO309 := n3_; have HO316 := n4_; have HO319 := n5_; have HO322 := n6_; have HO325 := n7_; have BK313 := n8_; have BK329 := n9_; have HB := n10_; clear n0_ n1_ n2_ n3_ n4_ n5_ n6_ n7_ n8_ n9_ n10_; (try clear hb); (try clear hb2); (try clear hk); (try clear hi)))
      go_meet
      case rel => exact ⟨_, ((t328 != t312)), zG82, H', ⟨by first | omega | exact Nat.le_refl _⟩, ⟨by (with_reducible repeat (first | apply zz | apply zaa | apply zab)); exact zau HO316.out (fun _ hk => hk.2)⟩, ⟨by (with_reducible repeat (first | apply zk | apply zl | apply zn)); exact zx HO319.out (fun _ hk => trivial)⟩, ⟨by (with_reducible repeat (first | apply zk | apply zl | apply zn)); exact zx HO322.out (fun _ hk => ⟨hk.1.2, hk.2⟩)⟩, ⟨by (with_reducible repeat (first | apply zk | apply zl | apply zn)); exact zx HO309.out (fun _ hk => ⟨hk.1.2, hk.2⟩)⟩, ⟨by (with_reducible repeat (first | apply zk | apply zl | apply zn)); exact zx HO325.out (fun _ hk => ⟨hk.2, hk.1.2⟩)⟩, ⟨by (with_reducible repeat (first | refine zh ?_ _ | refine zi ?_ | refine zg ?_ _)); exact BK313.out⟩, ⟨by (with_reducible repeat (first | refine zh ?_ _ | refine zi ?_ | refine zg ?_ _)); exact BK329.out⟩, ⟨by repeat (first | (with_reducible first | exact HB.out | apply zd | apply zb | apply zc | refine zf ?_ GE313.out | refine zf ?_ GE329.out) | exact HB.out)⟩⟩
     ·replace c45 := Bool.eq_false_iff.mpr c45
      subst c45
      have H1 : (laws_FnExactSourceOf.j0 k l0 l1 l2 t312 t314 t317 t320 t328 true t307 t310 t311 t323 t326 t327) = some r := by rw [if_neg (show ¬ (false = true) by decide)] at H; exact H
      clear H
      have H := H1
      clear H1
      have H' := za H
      clear H
      have hnb50 := NB329_313.out
      have hnc50 := NB313_329.out
      have hcz51_0 : w40.cell? ⟨gb329, 0, none⟩ = some (.slice none 0 0) := (zm BK329.out 0).trans rfl
      have hcz51_1 : w40.cell? ⟨gb329, 1, none⟩ = some (.int .i64 0) := (zm BK329.out 1).trans rfl
      have hcz51_2 : w40.cell? ⟨gb329, 2, none⟩ = some (.int .i64 0) := (zm BK329.out 2).trans rfl
      have hfz51_0 := zj BK329.out 0
      have hfz51_1 := zj BK329.out 1
      have hfz51_2 := zj BK329.out 2
      have hcz52_0 : w40.cell? ⟨gb313, 0, none⟩ = some (.slice Ao31 t307.length co31) := (zm BK313.out 0).trans rfl
      have hcz52_1 : w40.cell? ⟨gb313, 1, none⟩ = some (.int .i64 t310) := (zm BK313.out 1).trans rfl
      have hcz52_2 : w40.cell? ⟨gb313, 2, none⟩ = some (.int .i64 t311) := (zm BK313.out 2).trans rfl
      have hfz52_0 := zj BK313.out 0
      have hfz52_1 := zj BK313.out 1
      have hfz52_2 := zj BK313.out 2
      go_wp2_with (first | ((with_reducible refine gate_callee (f := 12) rfl ?_); refine goesL_ (some 58) rfl rfl Try.func12 zG83 rfl #[.agg #[.slice Ao41 t323.length co41, .int .i64 t326, .int .i64 t327], .agg #[.slice Ao31 t307.length co31, .int .i64 t310, .int .i64 t311]] rfl zG67 ?_; (with_reducible refine (laws_eqSourcing.calls k _ _ t323 t326 t327 _ _ t307 t310 t311 false _ ?side1 ?side2 ?side3 ?side4 A44.out).mono ?_); (case side1 => refine (Kd.R_reads' (e := 3) (base := w.heap.size) (ok := fun k_ => (((True ∧ some k_ ≠ (.slice Ao28 t304.length co28 : Value).ownBlock) ∧ some k_ ≠ (.slice Ao31 t307.length co31 : Value).ownBlock) ∧ some k_ ≠ (.slice Ao38 t320.length co38 : Value).ownBlock)) (n := t323.length) (c := co41) ?_).2.2; exact (by (with_reducible repeat (first | apply zk | apply zl | apply zn)); exact (zx (zv (p := ⟨gb329, 2, none⟩) (zv (p := ⟨gb329, 1, none⟩) (zv (p := ⟨gb329, 0, none⟩) (zac HO325.out BK329.out (by decide)) (fun _ hk => hk.2) (.slice Ao41 t323.length co41)) (fun _ hk => hk.2) (.int .i64 t326)) (fun _ hk => hk.2) (.int .i64 t327)) (fun _ h_ => h_.1)))); (case side2 => exact (Kd.R_reads' HO325.out).2.1); (case side3 => refine (Kd.R_reads' (e := 3) (base := w.heap.size) (ok := fun k_ => (((True ∧ some k_ ≠ (.slice Ao28 t304.length co28 : Value).ownBlock) ∧ some k_ ≠ (.slice Ao38 t320.length co38 : Value).ownBlock) ∧ some k_ ≠ (.slice Ao41 t323.length co41 : Value).ownBlock)) (n := t307.length) (c := co31) ?_).2.2; exact (by (with_reducible repeat (first | apply zk | apply zl | apply zn)); exact (zx (zv (p := ⟨gb329, 2, none⟩) (zv (p := ⟨gb329, 1, none⟩) (zv (p := ⟨gb329, 0, none⟩) (zac HO309.out BK329.out (by decide)) (fun _ hk => hk.2) (.slice Ao41 t323.length co41)) (fun _ hk => hk.2) (.int .i64 t326)) (fun _ hk => hk.2) (.int .i64 t327)) (fun _ h_ => h_.1)))); (case side4 => exact (Kd.R_reads' HO309.out).2.1); rintro e w53 ⟨rfl, hb⟩; refine ⟨_, rfl, ?_⟩; have n0_ := za (zae (by (with_reducible repeat (first | apply zz | apply zaa | apply zab)); exact (zau (zam (p := ⟨gb329, 2, none⟩) (zam (p := ⟨gb329, 1, none⟩) (zam (p := ⟨gb329, 0, none⟩) (zbf HO300.out BK329.out (by decide)) (fun _ hk => hk.2) (.slice Ao41 t323.length co41)) (fun _ hk => hk.2) (.int .i64 t326)) (fun _ hk => hk.2) (.int .i64 t327)) (fun _ h_ => h_.1))) hb); have n1_ := za (zp (by (with_reducible repeat (first | apply zk | apply zl | apply zn)); exact (zx (zv (p := ⟨gb329, 2, none⟩) (zv (p := ⟨gb329, 1, none⟩) (zv (p := ⟨gb329, 0, none⟩) (zac HO303.out BK329.out (by decide)) (fun _ hk => hk.2) (.slice Ao41 t323.length co41)) (fun _ hk => hk.2) (.int .i64 t326)) (fun _ hk => hk.2) (.int .i64 t327)) (fun _ h_ => h_.1))) hb); have n2_ := za (zp (by (with_reducible repeat (first | apply zk | apply zl | apply zn)); exact (zx (zv (p := ⟨gb329, 2, none⟩) (zv (p := ⟨gb329, 1, none⟩) (zv (p := ⟨gb329, 0, none⟩) (zac HO306.out BK329.out (by decide)) (fun _ hk => hk.2) (.slice Ao41 t323.length co41)) (fun _ hk => hk.2) (.int .i64 t326)) (fun _ hk => hk.2) (.int .i64 t327)) (fun _ h_ => h_.1))) hb); have n3_ := za (zp (by (with_reducible repeat (first | apply zk | apply zl | apply zn)); exact (zx (zv (p := ⟨gb329, 2, none⟩) (zv (p := ⟨gb329, 1, none⟩) (zv (p := ⟨gb329, 0, none⟩) (zac HO309.out BK329.out (by decide)) (fun _ hk => hk.2) (.slice Ao41 t323.length co41)) (fun _ hk => hk.2) (.int .i64 t326)) (fun _ hk => hk.2) (.int .i64 t327)) (fun _ h_ => h_.1))) hb); have n4_ := za (zae (by (with_reducible repeat (first | apply zz | apply zaa | apply zab)); exact (zau (zam (p := ⟨gb329, 2, none⟩) (zam (p := ⟨gb329, 1, none⟩) (zam (p := ⟨gb329, 0, none⟩) (zbf HO316.out BK329.out (by decide)) (fun _ hk => hk.2) (.slice Ao41 t323.length co41)) (fun _ hk => hk.2) (.int .i64 t326)) (fun _ hk => hk.2) (.int .i64 t327)) (fun _ h_ => h_.1))) hb); have n5_ := za (zp (by (with_reducible repeat (first | apply zk | apply zl | apply zn)); exact (zx (zv (p := ⟨gb329, 2, none⟩) (zv (p := ⟨gb329, 1, none⟩) (zv (p := ⟨gb329, 0, none⟩) (zac HO319.out BK329.out (by decide)) (fun _ hk => hk.2) (.slice Ao41 t323.length co41)) (fun _ hk => hk.2) (.int .i64 t326)) (fun _ hk => hk.2) (.int .i64 t327)) (fun _ h_ => h_.1))) hb); have n6_ := za (zp (by (with_reducible repeat (first | apply zk | apply zl | apply zn)); exact (zx (zv (p := ⟨gb329, 2, none⟩) (zv (p := ⟨gb329, 1, none⟩) (zv (p := ⟨gb329, 0, none⟩) (zac HO322.out BK329.out (by decide)) (fun _ hk => hk.2) (.slice Ao41 t323.length co41)) (fun _ hk => hk.2) (.int .i64 t326)) (fun _ hk => hk.2) (.int .i64 t327)) (fun _ h_ => h_.1))) hb); have n7_ := za (zp (by (with_reducible repeat (first | apply zk | apply zl | apply zn)); exact (zx (zv (p := ⟨gb329, 2, none⟩) (zv (p := ⟨gb329, 1, none⟩) (zv (p := ⟨gb329, 0, none⟩) (zac HO325.out BK329.out (by decide)) (fun _ hk => hk.2) (.slice Ao41 t323.length co41)) (fun _ hk => hk.2) (.int .i64 t326)) (fun _ hk => hk.2) (.int .i64 t327)) (fun _ h_ => h_.1))) hb); have n8_ := za (zr (g := gb313) (o := .cells #[.slice Ao31 t307.length co31, .int .i64 t310, .int .i64 t311] 28 (0, 0)) (by (with_reducible repeat (first | refine zh ?_ _ | refine zi ?_ | refine zg ?_ _)); refine zag ?_ NB313_329.out _; (with_reducible repeat (first | refine zh ?_ _ | refine zi ?_ | refine zg ?_ _)); refine zag ?_ NB313_329.out _; (with_reducible repeat (first | refine zh ?_ _ | refine zi ?_ | refine zg ?_ _)); refine zag ?_ NB313_329.out _; (with_reducible repeat (first | refine zh ?_ _ | refine zi ?_ | refine zg ?_ _)); exact BK313.out) hb); have n9_ := za (zr (g := gb329) (o := .cells #[.slice Ao41 t323.length co41, .int .i64 t326, .int .i64 t327] 28 (0, 0)) (by (with_reducible repeat (first | refine zh ?_ _ | refine zi ?_ | refine zg ?_ _)); refine zy (cs := #[.slice Ao41 t323.length co41, .int .i64 t326, .int .i64 0]) ?_ 2 _ rfl; (with_reducible repeat (first | refine zh ?_ _ | refine zi ?_ | refine zg ?_ _)); refine zy (cs := #[.slice Ao41 t323.length co41, .int .i64 0, .int .i64 0]) ?_ 1 _ rfl; (with_reducible repeat (first | refine zh ?_ _ | refine zi ?_ | refine zg ?_ _)); refine zy (cs := #[.slice none 0 0, .int .i64 0, .int .i64 0]) ?_ 0 _ rfl; (with_reducible repeat (first | refine zh ?_ _ | refine zi ?_ | refine zg ?_ _)); exact BK329.out) hb); have n10_ := za (zq zG66 hb); clear HO300; clear HO303; clear HO306; clear HO309; clear HO316; clear HO319; clear HO322; clear HO325; clear BK313; clear BK329; clear HB; have HO300 := n0_; have HO303 := n1_; have HO306 := n2_; have HO309 := n3_; have HO316 := n4_; have HO319 := n5_; have HO322 := n6_; have HO325 := n7_; have BK313 := n8_; have BK329 := n9_; have HB := n10_; clear n0_ n1_ n2_ n3_ n4_ n5_ n6_ n7_ n8_ n9_ n10_; (try clear hb); (try clear hb2); (try clear hk); (try clear hi)))
      go_meet
      case rel => exact ⟨_, (true), zG82, H', ⟨by first | omega | exact Nat.le_refl _⟩, ⟨by (with_reducible repeat (first | apply zz | apply zaa | apply zab)); exact zau HO316.out (fun _ hk => hk.2)⟩, ⟨by (with_reducible repeat (first | apply zk | apply zl | apply zn)); exact zx HO319.out (fun _ hk => trivial)⟩, ⟨by (with_reducible repeat (first | apply zk | apply zl | apply zn)); exact zx HO322.out (fun _ hk => ⟨hk.1.2, hk.2⟩)⟩, ⟨by (with_reducible repeat (first | apply zk | apply zl | apply zn)); exact zx HO309.out (fun _ hk => ⟨hk.1.2, hk.2⟩)⟩, ⟨by (with_reducible repeat (first | apply zk | apply zl | apply zn)); exact zx HO325.out (fun _ hk => ⟨hk.2, hk.1.2⟩)⟩, ⟨by (with_reducible repeat (first | refine zh ?_ _ | refine zi ?_ | refine zg ?_ _)); exact BK313.out⟩, ⟨by (with_reducible repeat (first | refine zh ?_ _ | refine zi ?_ | refine zg ?_ _)); exact BK329.out⟩, ⟨by repeat (first | (with_reducible first | exact HB.out | apply zd | apply zb | apply zc | refine zf ?_ GE313.out | refine zf ?_ GE329.out) | exact HB.out)⟩⟩
    case rest =>
     clear HC20
     try clear c1
     try clear c2
     try clear p2
     try clear c3
     try clear c4
     try clear c4b0
     try clear c4b1
     try clear c5
     try clear c6
     try clear c6b0
     try clear c7
     try clear c8
     try clear c9
     try clear c9b0
     try clear c10
     try clear c11
     try clear c12
     try clear c42
     try clear c45
     try clear c46
     try clear c50
     try clear hcz32_0
     try clear hcz32_1
     try clear hcz32_2
     try clear hcz43_0
     try clear hcz43_1
     try clear hcz43_2
     try clear hcz47_0
     try clear hcz47_1
     try clear hcz47_2
     try clear hcz48_0
     try clear hcz48_1
     try clear hcz48_2
     try clear hcz51_0
     try clear hcz51_1
     try clear hcz51_2
     try clear hcz52_0
     try clear hcz52_1
     try clear hcz52_2
     try clear hfz32_0
     try clear hfz32_1
     try clear hfz32_2
     try clear hfz43_0
     try clear hfz43_1
     try clear hfz43_2
     try clear hfz47_0
     try clear hfz47_1
     try clear hfz47_2
     try clear hfz48_0
     try clear hfz48_1
     try clear hfz48_2
     try clear hfz51_0
     try clear hfz51_1
     try clear hfz51_2
     try clear hfz52_0
     try clear hfz52_1
     try clear hfz52_2
     obtain ⟨kq, x64_19, rfl, HA, HJ19, HO_10, HO_11, HO_12, HO_314000, HO_330000, BK313, BK329, HB⟩ := hcut
     cases kq with
     | zero => exact absurd HA.out (by simp [laws_FnExactSourceOf.j0])
     | succ kj19 =>
      have H := HA.out
      clear HA
      simp only [laws_FnExactSourceOf.j0] at H
      by_cases c54 : x64_19 = true
      ·subst c54
       have H1 : (some false) = some r := by rw [if_pos rfl] at H; exact H
       clear H
       have H := H1
       clear H1
       obtain rfl := Option.some.inj H
       go_wp2
       go_ret
       exact ⟨by first | rfl | (simp [errW_none, errW_some] <;> rfl) | (simp [*, errW_none, errW_some] <;> rfl), by repeat (first | (with_reducible first | exact HB.out | apply zd | apply zb | apply zc | refine zf ?_ GE313.out | refine zf ?_ GE329.out) | exact HB.out)⟩
      ·replace c54 := Bool.eq_false_iff.mpr c54
       subst c54
       have H1 : ((laws_toSourceS.f kj19 l0).bind fun t331 => ((laws_eqSourceS.f kj19 t314 t331).bind fun t334 => (if t334 = true then ((laws_toStockedS.f kj19 l1).bind fun t335 => ((laws_eqStockedS.f kj19 t317 t335).bind fun t338 => (if t338 = true then ((laws_toIntS.f kj19 l2).bind fun t339 => ((laws_eqIntS.f kj19 t320 t339).bind fun t342 => (if t342 = true then ((laws_markSourceS.f kj19 t314 1).bind fun t343 => ((laws_markStockedS.f kj19 t317 t343).bind fun bt344 => ((laws_markIntS.f kj19 t320 bt344.1).bind fun bt346 => (if bt346.1 < 0 then (laws_FnExactSourceOf.j1 kj19 l0 l1 l2 t312 true t307 t310 t311 t323 t326 t327) else ((laws_eqSourcing.f kj19 t323 t326 t327 t307 t310 t311).bind fun t348 => (if t348 = true then (laws_FnExactSourceOf.j1 kj19 l0 l1 l2 t312 (t328 != t312) t307 t310 t311 t323 t326 t327) else (laws_FnExactSourceOf.j1 kj19 l0 l1 l2 t312 true t307 t310 t311 t323 t326 t327))))))) else (some false)))) else (some false)))) else (some false)))) = some r := by rw [if_neg (show ¬ (false = true) by decide)] at H; exact H
       clear H
       have H := H1
       clear H1
       replace H := Option.bind_eq_some_iff.mp H
       obtain ⟨t331, A550, H⟩ := H
       replace H : ((laws_eqSourceS.f kj19 t314 t331).bind fun t334 => (if t334 = true then ((laws_toStockedS.f kj19 l1).bind fun t335 => ((laws_eqStockedS.f kj19 t317 t335).bind fun t338 => (if t338 = true then ((laws_toIntS.f kj19 l2).bind fun t339 => ((laws_eqIntS.f kj19 t320 t339).bind fun t342 => (if t342 = true then ((laws_markSourceS.f kj19 t314 1).bind fun t343 => ((laws_markStockedS.f kj19 t317 t343).bind fun bt344 => ((laws_markIntS.f kj19 t320 bt344.1).bind fun bt346 => (if bt346.1 < 0 then (laws_FnExactSourceOf.j1 kj19 l0 l1 l2 t312 true t307 t310 t311 t323 t326 t327) else ((laws_eqSourcing.f kj19 t323 t326 t327 t307 t310 t311).bind fun t348 => (if t348 = true then (laws_FnExactSourceOf.j1 kj19 l0 l1 l2 t312 (t328 != t312) t307 t310 t311 t323 t326 t327) else (laws_FnExactSourceOf.j1 kj19 l0 l1 l2 t312 true t307 t310 t311 t323 t326 t327))))))) else (some false)))) else (some false)))) else (some false))) = some r := H
       have A55 := za A550
       clear A550
       replace H := Option.bind_eq_some_iff.mp H
       obtain ⟨t334, A560, H⟩ := H
       replace H : (if t334 = true then ((laws_toStockedS.f kj19 l1).bind fun t335 => ((laws_eqStockedS.f kj19 t317 t335).bind fun t338 => (if t338 = true then ((laws_toIntS.f kj19 l2).bind fun t339 => ((laws_eqIntS.f kj19 t320 t339).bind fun t342 => (if t342 = true then ((laws_markSourceS.f kj19 t314 1).bind fun t343 => ((laws_markStockedS.f kj19 t317 t343).bind fun bt344 => ((laws_markIntS.f kj19 t320 bt344.1).bind fun bt346 => (if bt346.1 < 0 then (laws_FnExactSourceOf.j1 kj19 l0 l1 l2 t312 true t307 t310 t311 t323 t326 t327) else ((laws_eqSourcing.f kj19 t323 t326 t327 t307 t310 t311).bind fun t348 => (if t348 = true then (laws_FnExactSourceOf.j1 kj19 l0 l1 l2 t312 (t328 != t312) t307 t310 t311 t323 t326 t327) else (laws_FnExactSourceOf.j1 kj19 l0 l1 l2 t312 true t307 t310 t311 t323 t326 t327))))))) else (some false)))) else (some false)))) else (some false)) = some r := H
       have A56 := za A560
       clear A560
       by_cases c57 : t334 = true
       ·subst c57
        have H1 : ((laws_toStockedS.f kj19 l1).bind fun t335 => ((laws_eqStockedS.f kj19 t317 t335).bind fun t338 => (if t338 = true then ((laws_toIntS.f kj19 l2).bind fun t339 => ((laws_eqIntS.f kj19 t320 t339).bind fun t342 => (if t342 = true then ((laws_markSourceS.f kj19 t314 1).bind fun t343 => ((laws_markStockedS.f kj19 t317 t343).bind fun bt344 => ((laws_markIntS.f kj19 t320 bt344.1).bind fun bt346 => (if bt346.1 < 0 then (laws_FnExactSourceOf.j1 kj19 l0 l1 l2 t312 true t307 t310 t311 t323 t326 t327) else ((laws_eqSourcing.f kj19 t323 t326 t327 t307 t310 t311).bind fun t348 => (if t348 = true then (laws_FnExactSourceOf.j1 kj19 l0 l1 l2 t312 (t328 != t312) t307 t310 t311 t323 t326 t327) else (laws_FnExactSourceOf.j1 kj19 l0 l1 l2 t312 true t307 t310 t311 t323 t326 t327))))))) else (some false)))) else (some false)))) = some r := by rw [if_pos rfl] at H; exact H
        clear H
        have H := H1
        clear H1
        replace H := Option.bind_eq_some_iff.mp H
        obtain ⟨t335, A580, H⟩ := H
        replace H : ((laws_eqStockedS.f kj19 t317 t335).bind fun t338 => (if t338 = true then ((laws_toIntS.f kj19 l2).bind fun t339 => ((laws_eqIntS.f kj19 t320 t339).bind fun t342 => (if t342 = true then ((laws_markSourceS.f kj19 t314 1).bind fun t343 => ((laws_markStockedS.f kj19 t317 t343).bind fun bt344 => ((laws_markIntS.f kj19 t320 bt344.1).bind fun bt346 => (if bt346.1 < 0 then (laws_FnExactSourceOf.j1 kj19 l0 l1 l2 t312 true t307 t310 t311 t323 t326 t327) else ((laws_eqSourcing.f kj19 t323 t326 t327 t307 t310 t311).bind fun t348 => (if t348 = true then (laws_FnExactSourceOf.j1 kj19 l0 l1 l2 t312 (t328 != t312) t307 t310 t311 t323 t326 t327) else (laws_FnExactSourceOf.j1 kj19 l0 l1 l2 t312 true t307 t310 t311 t323 t326 t327))))))) else (some false)))) else (some false))) = some r := H
        have A58 := za A580
        clear A580
        replace H := Option.bind_eq_some_iff.mp H
        obtain ⟨t338, A590, H⟩ := H
        replace H : (if t338 = true then ((laws_toIntS.f kj19 l2).bind fun t339 => ((laws_eqIntS.f kj19 t320 t339).bind fun t342 => (if t342 = true then ((laws_markSourceS.f kj19 t314 1).bind fun t343 => ((laws_markStockedS.f kj19 t317 t343).bind fun bt344 => ((laws_markIntS.f kj19 t320 bt344.1).bind fun bt346 => (if bt346.1 < 0 then (laws_FnExactSourceOf.j1 kj19 l0 l1 l2 t312 true t307 t310 t311 t323 t326 t327) else ((laws_eqSourcing.f kj19 t323 t326 t327 t307 t310 t311).bind fun t348 => (if t348 = true then (laws_FnExactSourceOf.j1 kj19 l0 l1 l2 t312 (t328 != t312) t307 t310 t311 t323 t326 t327) else (laws_FnExactSourceOf.j1 kj19 l0 l1 l2 t312 true t307 t310 t311 t323 t326 t327))))))) else (some false)))) else (some false)) = some r := H
        have A59 := za A590
        clear A590
        by_cases c60 : t338 = true
        ·subst c60
         have H1 : ((laws_toIntS.f kj19 l2).bind fun t339 => ((laws_eqIntS.f kj19 t320 t339).bind fun t342 => (if t342 = true then ((laws_markSourceS.f kj19 t314 1).bind fun t343 => ((laws_markStockedS.f kj19 t317 t343).bind fun bt344 => ((laws_markIntS.f kj19 t320 bt344.1).bind fun bt346 => (if bt346.1 < 0 then (laws_FnExactSourceOf.j1 kj19 l0 l1 l2 t312 true t307 t310 t311 t323 t326 t327) else ((laws_eqSourcing.f kj19 t323 t326 t327 t307 t310 t311).bind fun t348 => (if t348 = true then (laws_FnExactSourceOf.j1 kj19 l0 l1 l2 t312 (t328 != t312) t307 t310 t311 t323 t326 t327) else (laws_FnExactSourceOf.j1 kj19 l0 l1 l2 t312 true t307 t310 t311 t323 t326 t327))))))) else (some false)))) = some r := by rw [if_pos rfl] at H; exact H
         clear H
         have H := H1
         clear H1
         replace H := Option.bind_eq_some_iff.mp H
         obtain ⟨t339, A610, H⟩ := H
         replace H : ((laws_eqIntS.f kj19 t320 t339).bind fun t342 => (if t342 = true then ((laws_markSourceS.f kj19 t314 1).bind fun t343 => ((laws_markStockedS.f kj19 t317 t343).bind fun bt344 => ((laws_markIntS.f kj19 t320 bt344.1).bind fun bt346 => (if bt346.1 < 0 then (laws_FnExactSourceOf.j1 kj19 l0 l1 l2 t312 true t307 t310 t311 t323 t326 t327) else ((laws_eqSourcing.f kj19 t323 t326 t327 t307 t310 t311).bind fun t348 => (if t348 = true then (laws_FnExactSourceOf.j1 kj19 l0 l1 l2 t312 (t328 != t312) t307 t310 t311 t323 t326 t327) else (laws_FnExactSourceOf.j1 kj19 l0 l1 l2 t312 true t307 t310 t311 t323 t326 t327))))))) else (some false))) = some r := H
         have A61 := za A610
         clear A610
         replace H := Option.bind_eq_some_iff.mp H
         obtain ⟨t342, A620, H⟩ := H
         replace H : (if t342 = true then ((laws_markSourceS.f kj19 t314 1).bind fun t343 => ((laws_markStockedS.f kj19 t317 t343).bind fun bt344 => ((laws_markIntS.f kj19 t320 bt344.1).bind fun bt346 => (if bt346.1 < 0 then (laws_FnExactSourceOf.j1 kj19 l0 l1 l2 t312 true t307 t310 t311 t323 t326 t327) else ((laws_eqSourcing.f kj19 t323 t326 t327 t307 t310 t311).bind fun t348 => (if t348 = true then (laws_FnExactSourceOf.j1 kj19 l0 l1 l2 t312 (t328 != t312) t307 t310 t311 t323 t326 t327) else (laws_FnExactSourceOf.j1 kj19 l0 l1 l2 t312 true t307 t310 t311 t323 t326 t327))))))) else (some false)) = some r := H
         have A62 := za A620
         clear A620
         by_cases c63 : t342 = true
         ·subst c63
          have H1 : ((laws_markSourceS.f kj19 t314 1).bind fun t343 => ((laws_markStockedS.f kj19 t317 t343).bind fun bt344 => ((laws_markIntS.f kj19 t320 bt344.1).bind fun bt346 => (if bt346.1 < 0 then (laws_FnExactSourceOf.j1 kj19 l0 l1 l2 t312 true t307 t310 t311 t323 t326 t327) else ((laws_eqSourcing.f kj19 t323 t326 t327 t307 t310 t311).bind fun t348 => (if t348 = true then (laws_FnExactSourceOf.j1 kj19 l0 l1 l2 t312 (t328 != t312) t307 t310 t311 t323 t326 t327) else (laws_FnExactSourceOf.j1 kj19 l0 l1 l2 t312 true t307 t310 t311 t323 t326 t327))))))) = some r := by rw [if_pos rfl] at H; exact H
          clear H
          have H := H1
          clear H1
          replace H := Option.bind_eq_some_iff.mp H
          obtain ⟨t343, A640, H⟩ := H
          replace H : ((laws_markStockedS.f kj19 t317 t343).bind fun bt344 => ((laws_markIntS.f kj19 t320 bt344.1).bind fun bt346 => (if bt346.1 < 0 then (laws_FnExactSourceOf.j1 kj19 l0 l1 l2 t312 true t307 t310 t311 t323 t326 t327) else ((laws_eqSourcing.f kj19 t323 t326 t327 t307 t310 t311).bind fun t348 => (if t348 = true then (laws_FnExactSourceOf.j1 kj19 l0 l1 l2 t312 (t328 != t312) t307 t310 t311 t323 t326 t327) else (laws_FnExactSourceOf.j1 kj19 l0 l1 l2 t312 true t307 t310 t311 t323 t326 t327)))))) = some r := H
          have A64 := za A640
          clear A640
          replace H := Option.bind_eq_some_iff.mp H
          obtain ⟨⟨t344, t345⟩, A650, H⟩ := H
          replace H : ((laws_markIntS.f kj19 t320 t344).bind fun bt346 => (if bt346.1 < 0 then (laws_FnExactSourceOf.j1 kj19 l0 l1 l2 t312 true t307 t310 t311 t323 t326 t327) else ((laws_eqSourcing.f kj19 t323 t326 t327 t307 t310 t311).bind fun t348 => (if t348 = true then (laws_FnExactSourceOf.j1 kj19 l0 l1 l2 t312 (t328 != t312) t307 t310 t311 t323 t326 t327) else (laws_FnExactSourceOf.j1 kj19 l0 l1 l2 t312 true t307 t310 t311 t323 t326 t327))))) = some r := H
          have A65 := za A650
          clear A650
          replace H := Option.bind_eq_some_iff.mp H
          obtain ⟨⟨t346, t347⟩, A660, H⟩ := H
          replace H : (if t346 < 0 then (laws_FnExactSourceOf.j1 kj19 l0 l1 l2 t312 true t307 t310 t311 t323 t326 t327) else ((laws_eqSourcing.f kj19 t323 t326 t327 t307 t310 t311).bind fun t348 => (if t348 = true then (laws_FnExactSourceOf.j1 kj19 l0 l1 l2 t312 (t328 != t312) t307 t310 t311 t323 t326 t327) else (laws_FnExactSourceOf.j1 kj19 l0 l1 l2 t312 true t307 t310 t311 t323 t326 t327)))) = some r := H
          have A66 := za A660
          clear A660
          have HC67 := za H
          clear H
          go_upto_region 27 with (first | ((with_reducible refine gate_callee (f := 8) rfl ?_); refine goesL_ (some 67) rfl rfl Try.func8 zG83 rfl #[.slice A0 l0.length c0] rfl zG67 ?_; (with_reducible refine (laws_toSourceS.calls kj19 _ _ l0 t331 _ ?side1 ?side2 A55.out).mono ?_); (case side1 => repeat (first | exact (zw HR0.out HB.out) | (with_reducible refine zs ?_ _) | (with_reducible refine zt ?_ _) | (with_reducible refine zu ?_))); (case side2 => exact HC0.out); rintro e w68 ⟨v332, rfl, ho0, hb⟩; refine ⟨_, rfl, ?_⟩; have n0_ := za (zaq zG79 (Kd.S_base ho0) hb); have n1_ := za (zp zG80 hb); have n2_ := za (zp zG81 hb); have n3_ := za (zp zG77 hb); have n4_ := za (zp zG78 hb); have n5_ := za (zbe (zay (zay ho0 (Kd.S_lt zG79)) (zap zG80)) (zo zG66)); have n6_ := za (zr (g := gb313) (o := .cells #[.slice Ao31 t307.length co31, .int .i64 t310, .int .i64 t311] 28 (0, 0)) zG74 hb); have n7_ := za (zr (g := gb329) (o := .cells #[.slice Ao41 t323.length co41, .int .i64 t326, .int .i64 t327] 28 (0, 0)) zG75 hb); have n8_ := za (zq zG66 hb); clear HO_10; clear HO_11; clear HO_12; clear HO_314000; clear HO_330000; clear BK313; clear BK329; clear HB; have HO_10 := n0_; have HO_11 := n1_; have HO_12 := n2_; have HO_314000 := n3_; have HO_330000 := n4_; have HO333 := n5_; have BK313 := n6_; have BK329 := n7_; have HB := n8_; clear n0_ n1_ n2_ n3_ n4_ n5_ n6_ n7_ n8_; (try clear hb); (try clear hb2); (try clear hk); (try clear hi); (try clear ho0); obtain ⟨Ao69, co69, eo69⟩ := zbh HO333.out; subst eo69) | ((with_reducible refine gate_callee (f := 13) rfl ?_); refine goesL_ (some 68) rfl rfl Try.func13 zG83 rfl #[.slice Ao36 t314.length co36, .slice Ao69 t331.length co69] rfl zG67 ?_; (with_reducible refine (laws_eqSourceS.calls kj19 _ _ t314 _ _ t331 true _ ?side1 ?side2 ?side3 ?side4 A56.out).mono ?_); (case side1 => repeat (first | exact (zai HO_10.out).2.2 | (with_reducible refine zs ?_ _) | (with_reducible refine zt ?_ _) | (with_reducible refine zu ?_))); (case side2 => exact (zai HO_10.out).2.1); (case side3 => repeat (first | exact (zai HO333.out).2.2 | (with_reducible refine zs ?_ _) | (with_reducible refine zt ?_ _) | (with_reducible refine zu ?_))); (case side4 => exact (zai HO333.out).2.1); rintro e w70 ⟨rfl, hb⟩; refine ⟨_, rfl, ?_⟩; have n0_ := za (zae zG79 hb); have n1_ := za (zp zG80 hb); have n2_ := za (zp zG81 hb); have n3_ := za (zp zG77 hb); have n4_ := za (zp zG78 hb); have n5_ := za (zae (by (with_reducible repeat (first | apply zz | apply zaa | apply zab)); exact HO333.out) hb); have n6_ := za (zr (g := gb313) (o := .cells #[.slice Ao31 t307.length co31, .int .i64 t310, .int .i64 t311] 28 (0, 0)) zG74 hb); have n7_ := za (zr (g := gb329) (o := .cells #[.slice Ao41 t323.length co41, .int .i64 t326, .int .i64 t327] 28 (0, 0)) zG75 hb); have n8_ := za (zq zG66 hb); clear HO_10; clear HO_11; clear HO_12; clear HO_314000; clear HO_330000; clear HO333; clear BK313; clear BK329; clear HB; have HO_10 := n0_; have HO_11 := n1_; have HO_12 := n2_; have HO_314000 := n3_; have HO_330000 := n4_; have HO333 := n5_; have BK313 := n6_; have BK329 := n7_; have HB := n8_; clear n0_ n1_ n2_ n3_ n4_ n5_ n6_ n7_ n8_; (try clear hb); (try clear hb2); (try clear hk); (try clear hi)) | ((with_reducible refine gate_callee (f := 9) rfl ?_); refine goesL_ (some 72) rfl rfl Try.func9 zG83 rfl #[.slice A1 l1.length c1] rfl zG67 ?_; (with_reducible refine (laws_toStockedS.calls kj19 _ _ l1 t335 _ ?side1 ?side2 A58.out).mono ?_); (case side1 => repeat (first | exact (zw HR1.out HB.out) | (with_reducible refine zs ?_ _) | (with_reducible refine zt ?_ _) | (with_reducible refine zu ?_))); (case side2 => exact HC1.out); rintro e w71 ⟨v336, rfl, ho0, hb⟩; refine ⟨_, rfl, ?_⟩; have n0_ := za (zaq zG79 (zah ho0) hb); have n1_ := za (zak zG80 (zah ho0) hb); have n2_ := za (zp zG81 hb); have n3_ := za (zp zG77 hb); have n4_ := za (zp zG78 hb); have n5_ := za (zaq (by (with_reducible repeat (first | apply zz | apply zaa | apply zab)); exact HO333.out) (zah ho0) hb); have n6_ := za (zaj (zao ho0 (zap zG80)) (zo zG66)); have n7_ := za (zr (g := gb313) (o := .cells #[.slice Ao31 t307.length co31, .int .i64 t310, .int .i64 t311] 28 (0, 0)) zG74 hb); have n8_ := za (zr (g := gb329) (o := .cells #[.slice Ao41 t323.length co41, .int .i64 t326, .int .i64 t327] 28 (0, 0)) zG75 hb); have n9_ := za (zq zG66 hb); clear HO_10; clear HO_11; clear HO_12; clear HO_314000; clear HO_330000; clear HO333; clear BK313; clear BK329; clear HB; have HO_10 := n0_; have HO_11 := n1_; have HO_12 := n2_; have HO_314000 := n3_; have HO_330000 := n4_; have HO333 := n5_; have HO337 := n6_; have BK313 := n7_; have BK329 := n8_; have HB := n9_; clear n0_ n1_ n2_ n3_ n4_ n5_ n6_ n7_ n8_ n9_; (try clear hb); (try clear hb2); (try clear hk); (try clear hi); (try clear ho0); obtain ⟨Ao72, co72, eo72⟩ := zaf HO337.out; subst eo72) | ((with_reducible refine gate_callee (f := 14) rfl ?_); refine goesL_ (some 73) rfl rfl Try.func14 zG83 rfl #[.slice Ao37 t317.length co37, .slice Ao72 t335.length co72] rfl zG67 ?_; (with_reducible refine (laws_eqStockedS.calls kj19 _ _ t317 _ _ t335 true _ ?side1 ?side2 ?side3 ?side4 A59.out).mono ?_); (case side1 => repeat (first | exact (Kd.R_reads' HO_11.out).2.2 | (with_reducible refine zs ?_ _) | (with_reducible refine zt ?_ _) | (with_reducible refine zu ?_))); (case side2 => exact (Kd.R_reads' HO_11.out).2.1); (case side3 => repeat (first | exact (Kd.R_reads' HO337.out).2.2 | (with_reducible refine zs ?_ _) | (with_reducible refine zt ?_ _) | (with_reducible refine zu ?_))); (case side4 => exact (Kd.R_reads' HO337.out).2.1); rintro e w73 ⟨rfl, hb⟩; refine ⟨_, rfl, ?_⟩; have n0_ := za (zae zG79 hb); have n1_ := za (zp zG80 hb); have n2_ := za (zp zG81 hb); have n3_ := za (zp zG77 hb); have n4_ := za (zp zG78 hb); have n5_ := za (zae (by (with_reducible repeat (first | apply zz | apply zaa | apply zab)); exact HO333.out) hb); have n6_ := za (zp (by (with_reducible repeat (first | apply zk | apply zl | apply zn)); exact HO337.out) hb); have n7_ := za (zr (g := gb313) (o := .cells #[.slice Ao31 t307.length co31, .int .i64 t310, .int .i64 t311] 28 (0, 0)) zG74 hb); have n8_ := za (zr (g := gb329) (o := .cells #[.slice Ao41 t323.length co41, .int .i64 t326, .int .i64 t327] 28 (0, 0)) zG75 hb); have n9_ := za (zq zG66 hb); clear HO_10; clear HO_11; clear HO_12; clear HO_314000; clear HO_330000; clear HO333; clear HO337; clear BK313; clear BK329; clear HB; have HO_10 := n0_; have HO_11 := n1_; have HO_12 := n2_; have HO_314000 := n3_; have HO_330000 := n4_; have HO333 := n5_; have HO337 := n6_; have BK313 := n7_; have BK329 := n8_; have HB := n9_; clear n0_ n1_ n2_ n3_ n4_ n5_ n6_ n7_ n8_ n9_; (try clear hb); (try clear hb2); (try clear hk); (try clear hi)) | ((with_reducible refine gate_callee (f := 10) rfl ?_); refine goesL_ (some 77) rfl rfl Try.func10 zG83 rfl #[.slice A2 l2.length c2] rfl zG67 ?_; (with_reducible refine (laws_toIntS.calls kj19 _ _ l2 t339 _ ?side1 ?side2 A61.out).mono ?_); (case side1 => repeat (first | exact (zw HR2.out HB.out) | (with_reducible refine zs ?_ _) | (with_reducible refine zt ?_ _) | (with_reducible refine zu ?_))); (case side2 => exact HC2.out); rintro e w74 ⟨v340, rfl, ho0, hb⟩; refine ⟨_, rfl, ?_⟩; have n0_ := za (zae zG79 hb); have n1_ := za (zp zG80 hb); have n2_ := za (zak zG81 (zah ho0) hb); have n3_ := za (zak zG77 (zah ho0) hb); have n4_ := za (zak zG78 (zah ho0) hb); have n5_ := za (zae (by (with_reducible repeat (first | apply zz | apply zaa | apply zab)); exact HO333.out) hb); have n6_ := za (zp (by (with_reducible repeat (first | apply zk | apply zl | apply zn)); exact HO337.out) hb); have n7_ := za (zaj (zao (zao (zao ho0 (zap zG81)) (zap zG77)) (zap zG78)) (zo zG66)); have n8_ := za (zr (g := gb313) (o := .cells #[.slice Ao31 t307.length co31, .int .i64 t310, .int .i64 t311] 28 (0, 0)) zG74 hb); have n9_ := za (zr (g := gb329) (o := .cells #[.slice Ao41 t323.length co41, .int .i64 t326, .int .i64 t327] 28 (0, 0)) zG75 hb); have n10_ := za (zq zG66 hb); clear HO_10; clear HO_11; clear HO_12; clear HO_314000; clear HO_330000; clear HO333; clear HO337; clear BK313; clear BK329; clear HB; have HO_10 := n0_; have HO_11 := n1_; have HO_12 := n2_; have HO_314000 := n3_; have HO_330000 := n4_; have HO333 := n5_; have HO337 := n6_; have HO341 := n7_; have BK313 := n8_; have BK329 := n9_; have HB := n10_; clear n0_ n1_ n2_ n3_ n4_ n5_ n6_ n7_ n8_ n9_ n10_; (try clear hb); (try clear hb2); (try clear hk); (try clear hi); (try clear ho0); obtain ⟨Ao75, co75, eo75⟩ := zaf HO341.out; subst eo75) | ((with_reducible refine gate_callee (f := 15) rfl ?_); refine goesL_ (some 78) rfl rfl Try.func15 zG83 rfl #[.slice Ao38 t320.length co38, .slice Ao75 t339.length co75] rfl zG67 ?_; (with_reducible refine (laws_eqIntS.calls kj19 _ _ t320 _ _ t339 true _ ?side1 ?side2 ?side3 ?side4 A62.out).mono ?_); (case side1 => repeat (first | exact (Kd.R_reads' HO_12.out).2.2 | (with_reducible refine zs ?_ _) | (with_reducible refine zt ?_ _) | (with_reducible refine zu ?_))); (case side2 => exact (Kd.R_reads' HO_12.out).2.1); (case side3 => repeat (first | exact (Kd.R_reads' HO341.out).2.2 | (with_reducible refine zs ?_ _) | (with_reducible refine zt ?_ _) | (with_reducible refine zu ?_))); (case side4 => exact (Kd.R_reads' HO341.out).2.1); rintro e w' ⟨rfl, ⟨nd, rfl⟩⟩; refine ⟨_, rfl, ?_⟩) | ((with_reducible refine gate_callee (f := 16) rfl ?_); refine goesL_ (some 82) rfl rfl Try.func16 zG83 rfl #[.slice Ao36 t314.length co36, .int .i64 1] rfl zG67 ?_; (with_reducible refine (laws_markSourceS.calls kj19 (fun k_ => ((some k_ ≠ (.slice Ao37 t317.length co37 : Value).ownBlock ∧ some k_ ≠ (.slice Ao69 t331.length co69 : Value).ownBlock) ∧ some k_ ≠ (.slice Ao72 t335.length co72 : Value).ownBlock)) (.slice Ao36 t314.length co36) t314 1 t343 w _ ?side1 ?side2 A64.out).mono ?_); (case side1 => repeat (first | (with_reducible first | exact HB.out | apply zd | apply zb | apply zc | refine zf ?_ GE313.out | refine zf ?_ GE329.out) | exact HB.out)); (case side2 => exact Kd.S_R (HO_10.out)); rintro e w76 ⟨rfl, hb, hkp⟩; refine ⟨_, rfl, ?_⟩; have n0_ := za (zav (ok := fun k_ => some k_ ≠ (.slice Ao72 t335.length co72 : Value).ownBlock) rfl (zan (zat rfl (HO_11.out)) hkp (fun k_ hk_ hs_ => (hs_.1.1.1) hk_)) (fun k_ e_ => ((HO_11.out).1 k_ e_).2)); have n1_ := za (zav (ok := fun k_ => some k_ ≠ (.slice Ao31 t307.length co31 : Value).ownBlock ∧ some k_ ≠ (.slice Ao41 t323.length co41 : Value).ownBlock ∧ some k_ ≠ (.slice Ao75 t339.length co75 : Value).ownBlock) rfl (zan (zat rfl (HO_12.out)) hkp (fun k_ hk_ hs_ => hv_ne2 hs_.2 (zar (HO_12.out)) hk_ (by decide))) (fun k_ e_ => ⟨((HO_12.out).1 k_ e_).1.1, ((HO_12.out).1 k_ e_).1.2, ((HO_12.out).1 k_ e_).2⟩)); have n2_ := za (zav (ok := fun k_ => some k_ ≠ (.slice Ao38 t320.length co38 : Value).ownBlock ∧ some k_ ≠ (.slice Ao41 t323.length co41 : Value).ownBlock ∧ some k_ ≠ (.slice Ao75 t339.length co75 : Value).ownBlock) rfl (zan (zat rfl (HO_314000.out)) hkp (fun k_ hk_ hs_ => hv_ne2 hs_.2 (zar (HO_314000.out)) hk_ (by decide))) (fun k_ e_ => ⟨((HO_314000.out).1 k_ e_).1.1, ((HO_314000.out).1 k_ e_).1.2, ((HO_314000.out).1 k_ e_).2⟩)); have n3_ := za (zav (ok := fun k_ => some k_ ≠ (.slice Ao38 t320.length co38 : Value).ownBlock ∧ some k_ ≠ (.slice Ao31 t307.length co31 : Value).ownBlock ∧ some k_ ≠ (.slice Ao75 t339.length co75 : Value).ownBlock) rfl (zan (zat rfl (HO_330000.out)) hkp (fun k_ hk_ hs_ => hv_ne2 hs_.2 (zar (HO_330000.out)) hk_ (by decide))) (fun k_ e_ => ⟨((HO_330000.out).1 k_ e_).1.1, ((HO_330000.out).1 k_ e_).1.2, ((HO_330000.out).1 k_ e_).2⟩)); have n4_ := za (zax zG74 hkp (fun hs_ => hv_ne hs_.2 zG74 (by decide))); have n5_ := za (zax zG75 hkp (fun hs_ => hv_ne hs_.2 zG75 (by decide))); have n6_ := za (zav (ok := fun k_ => some k_ ≠ (.slice Ao37 t317.length co37 : Value).ownBlock) rfl (zan (zat rfl (HO337.out)) hkp (fun k_ hk_ hs_ => (hs_.1.2) hk_)) (fun k_ e_ => ((HO337.out).1 k_ e_).2)); have n7_ := za (zav (ok := fun k_ => some k_ ≠ (.slice Ao38 t320.length co38 : Value).ownBlock ∧ some k_ ≠ (.slice Ao31 t307.length co31 : Value).ownBlock ∧ some k_ ≠ (.slice Ao41 t323.length co41 : Value).ownBlock) rfl (zan (zat rfl (HO341.out)) hkp (fun k_ hk_ hs_ => hv_ne2 hs_.2 (zar (HO341.out)) hk_ (by decide))) (fun k_ e_ => ⟨((HO341.out).1 k_ e_).1.1.2, ((HO341.out).1 k_ e_).1.2, ((HO341.out).1 k_ e_).2⟩)); have n8_ := za (hb); clear HO_11; clear HO_12; clear HO_314000; clear HO_330000; clear BK313; clear BK329; clear HO337; clear HO341; clear HB; clear HO333; clear HO_10; have HO_11 := n0_; have HO_12 := n1_; have HO_314000 := n2_; have HO_330000 := n3_; have BK313 := n4_; have BK329 := n5_; have HO337 := n6_; have HO341 := n7_; have HB := n8_; clear n0_ n1_ n2_ n3_ n4_ n5_ n6_ n7_ n8_; (try clear hb); (try clear hkp)) | ((with_reducible refine gate_callee (f := 17) rfl ?_); refine goesL_ (some 85) rfl rfl Try.func17 zG83 rfl #[.slice Ao37 t317.length co37, .int .i64 t343] rfl zG67 ?_; (with_reducible refine (laws_markStockedS.calls kj19 (fun k_ => some k_ = (.slice Ao37 t317.length co37 : Value).ownBlock) (.slice Ao37 t317.length co37) t317 t343 t344 t345 w _ ?side1 ?side2 A65.out).mono ?_); (case side1 => repeat (first | (with_reducible first | exact HB.out | apply zd | apply zb | apply zc | refine zf ?_ GE313.out | refine zf ?_ GE329.out) | exact HB.out)); (case side2 => exact zat rfl HO_11.out); rintro e w77 ⟨rfl, hy0, hb, hkp⟩; refine ⟨_, rfl, ?_⟩; have n0_ := za (zav rfl hy0 (fun k_ e_ => HO_11.out.1 k_ e_)); have n1_ := za (zx (ok' := fun k_ => some k_ ≠ (.slice Ao31 t307.length co31 : Value).ownBlock ∧ some k_ ≠ (.slice Ao41 t323.length co41 : Value).ownBlock ∧ some k_ ≠ (.slice Ao75 t339.length co75 : Value).ownBlock) (zan ((zbd HO_12.out (zar HO_11.out) (by decide))) hkp (fun k_ hk_ hs_ => (hk_.2) hs_)) (fun k_ hk_ => ⟨hk_.1.1.1, hk_.1.1.2.1, hk_.1.1.2.2⟩)); have n2_ := za (zx (ok' := fun k_ => some k_ ≠ (.slice Ao38 t320.length co38 : Value).ownBlock ∧ some k_ ≠ (.slice Ao41 t323.length co41 : Value).ownBlock ∧ some k_ ≠ (.slice Ao75 t339.length co75 : Value).ownBlock) (zan ((zbd HO_314000.out (zar HO_11.out) (by decide))) hkp (fun k_ hk_ hs_ => (hk_.2) hs_)) (fun k_ hk_ => ⟨hk_.1.1.1, hk_.1.1.2.1, hk_.1.1.2.2⟩)); have n3_ := za (zx (ok' := fun k_ => some k_ ≠ (.slice Ao38 t320.length co38 : Value).ownBlock ∧ some k_ ≠ (.slice Ao31 t307.length co31 : Value).ownBlock ∧ some k_ ≠ (.slice Ao75 t339.length co75 : Value).ownBlock) (zan ((zbd HO_330000.out (zar HO_11.out) (by decide))) hkp (fun k_ hk_ hs_ => (hk_.2) hs_)) (fun k_ hk_ => ⟨hk_.1.1.1, hk_.1.1.2.1, hk_.1.1.2.2⟩)); have n4_ := za (zax zG74 hkp (fun hs_ => (fun e_ => (zas HO_11.out BK313.out (by decide)) e_) hs_)); have n5_ := za (zax zG75 hkp (fun hs_ => (fun e_ => (zas HO_11.out BK329.out (by decide)) e_) hs_)); have n6_ := za (zx (ok' := fun k_ => some k_ ≠ (.slice Ao37 t317.length co37 : Value).ownBlock) (zan (HO337.out) hkp (fun k_ hk_ hs_ => (hk_) hs_)) (fun k_ hk_ => hk_.1)); have n7_ := za (zx (ok' := fun k_ => some k_ ≠ (.slice Ao38 t320.length co38 : Value).ownBlock ∧ some k_ ≠ (.slice Ao31 t307.length co31 : Value).ownBlock ∧ some k_ ≠ (.slice Ao41 t323.length co41 : Value).ownBlock) (zan ((zbd HO341.out (zar HO_11.out) (by decide))) hkp (fun k_ hk_ hs_ => (hk_.2) hs_)) (fun k_ hk_ => ⟨hk_.1.1.1, hk_.1.1.2.1, hk_.1.1.2.2⟩)); have n8_ := za (hb); clear HO_11; clear HO_12; clear HO_314000; clear HO_330000; clear BK313; clear BK329; clear HO337; clear HO341; clear HB; have HO_11 := n0_; have HO_12 := n1_; have HO_314000 := n2_; have HO_330000 := n3_; have BK313 := n4_; have BK329 := n5_; have HO337 := n6_; have HO341 := n7_; have HB := n8_; clear n0_ n1_ n2_ n3_ n4_ n5_ n6_ n7_ n8_; (try clear hb); (try clear hkp); (try clear hy0)) | ((with_reducible refine gate_callee (f := 18) rfl ?_); refine goesL_ (some 88) rfl rfl Try.func18 zG83 rfl #[.slice Ao38 t320.length co38, .int .i64 t344] rfl zG67 ?_; (with_reducible refine (laws_markIntS.calls kj19 (fun k_ => some k_ = (.slice Ao38 t320.length co38 : Value).ownBlock) (.slice Ao38 t320.length co38) t320 t344 t346 t347 w _ ?side1 ?side2 A66.out).mono ?_); (case side1 => repeat (first | (with_reducible first | exact HB.out | apply zd | apply zb | apply zc | refine zf ?_ GE313.out | refine zf ?_ GE329.out) | exact HB.out)); (case side2 => exact zat rfl HO_12.out); rintro e w78 ⟨rfl, hy0, hb, hkp⟩; refine ⟨_, rfl, ?_⟩; have n0_ := za (zx (ok' := fun k_ => some k_ ≠ (.slice Ao72 t335.length co72 : Value).ownBlock) (zan ((zbd HO_11.out (zar HO_12.out) (by decide))) hkp (fun k_ hk_ hs_ => (hk_.2) hs_)) (fun k_ hk_ => hk_.1.1)); have n1_ := za (zav rfl hy0 (fun k_ e_ => HO_12.out.1 k_ e_)); have n2_ := za (zx (ok' := fun k_ => some k_ ≠ (.slice Ao38 t320.length co38 : Value).ownBlock ∧ some k_ ≠ (.slice Ao41 t323.length co41 : Value).ownBlock ∧ some k_ ≠ (.slice Ao75 t339.length co75 : Value).ownBlock) (zan (HO_314000.out) hkp (fun k_ hk_ hs_ => (hk_.1) hs_)) (fun k_ hk_ => ⟨hk_.1.1, hk_.1.2.1, hk_.1.2.2⟩)); have n3_ := za (zx (ok' := fun k_ => some k_ ≠ (.slice Ao38 t320.length co38 : Value).ownBlock ∧ some k_ ≠ (.slice Ao31 t307.length co31 : Value).ownBlock ∧ some k_ ≠ (.slice Ao75 t339.length co75 : Value).ownBlock) (zan (HO_330000.out) hkp (fun k_ hk_ hs_ => (hk_.1) hs_)) (fun k_ hk_ => ⟨hk_.1.1, hk_.1.2.1, hk_.1.2.2⟩)); have n4_ := za (zax zG74 hkp (fun hs_ => (fun e_ => (zas HO_12.out BK313.out (by decide)) e_) hs_)); have n5_ := za (zax zG75 hkp (fun hs_ => (fun e_ => (zas HO_12.out BK329.out (by decide)) e_) hs_)); have n6_ := za (zx (ok' := fun k_ => some k_ ≠ (.slice Ao37 t317.length co37 : Value).ownBlock) (zan ((zbd HO337.out (zar HO_12.out) (by decide))) hkp (fun k_ hk_ hs_ => (hk_.2) hs_)) (fun k_ hk_ => hk_.1.1)); have n7_ := za (zx (ok' := fun k_ => some k_ ≠ (.slice Ao38 t320.length co38 : Value).ownBlock ∧ some k_ ≠ (.slice Ao31 t307.length co31 : Value).ownBlock ∧ some k_ ≠ (.slice Ao41 t323.length co41 : Value).ownBlock) (zan (HO341.out) hkp (fun k_ hk_ hs_ => (hk_.1) hs_)) (fun k_ hk_ => ⟨hk_.1.1, hk_.1.2.1, hk_.1.2.2⟩)); have n8_ := za (hb); clear HO_11; clear HO_12; clear HO_314000; clear HO_330000; clear BK313; clear BK329; clear HO337; clear HO341; clear HB; have HO_11 := n0_; have HO_12 := n1_; have HO_314000 := n2_; have HO_330000 := n3_; have BK313 := n4_; have BK329 := n5_; have HO337 := n6_; have HO341 := n7_; have HB := n8_; clear n0_ n1_ n2_ n3_ n4_ n5_ n6_ n7_ n8_; (try clear hb); (try clear hkp); (try clear hy0)))
          (try simp only [Act.put, List.setIfInBounds_toArray, List.set_cons_zero, List.set_cons_succ])
          go_cut [101] (fun v101 wc => ∃ (kq : Nat) (x101_66 : Bool), v101 = .bool x101_66 ∧ Aside0 (laws_FnExactSourceOf.j1 kq l0 l1 l2 t312 x101_66 t307 t310 t311 t323 t326 t327 = some r) ∧ Aside0 (kq ≤ kj19) ∧ Aside0 (Kd.R (Kd.int .i64) 3 wc w.heap.size (fun k_ => some k_ ≠ ((.slice Ao41 t323.length co41) : Value).ownBlock) (.slice Ao31 t307.length co31) t307) ∧ Aside0 (Kd.R (Kd.int .i64) 3 wc w.heap.size (fun k_ => some k_ ≠ ((.slice Ao31 t307.length co31) : Value).ownBlock) (.slice Ao41 t323.length co41) t323) ∧ Aside0 (wc.heap[gb313]? = some (.cells #[(.slice Ao31 t307.length co31), .int .i64 t310, .int .i64 t311] 28 (0, 0))) ∧ Aside0 (wc.heap[gb329]? = some (.cells #[(.slice Ao41 t323.length co41), .int .i64 t326, .int .i64 t327] 28 (0, 0))) ∧ Aside0 (Below w.heap.size w wc))
          case first =>
           have H := HC67.out
           clear HC67
           by_cases c79 : t346 < 0
           ·rw [if_pos c79] at H
            have c79b0 : decide (t346 < 0) = true := decide_eq_true c79
            clear c79
            (first | rw [c79b0] | (simp only [i64_w, i32_w]; rw [c79b0]) | skip)
            have H' := za H
            clear H
            go_wp2
            go_meet
            case rel => exact ⟨_, (true), zG82, H', ⟨by have := HJ19.out; first | omega | exact Nat.le_refl _⟩, ⟨by (with_reducible repeat (first | apply zk | apply zl | apply zn)); exact zx HO_314000.out (fun _ hk => hk.2.1)⟩, ⟨by (with_reducible repeat (first | apply zk | apply zl | apply zn)); exact zx HO_330000.out (fun _ hk => hk.2.1)⟩, ⟨by (with_reducible repeat (first | refine zh ?_ _ | refine zi ?_ | refine zg ?_ _)); exact BK313.out⟩, ⟨by (with_reducible repeat (first | refine zh ?_ _ | refine zi ?_ | refine zg ?_ _)); exact BK329.out⟩, ⟨by repeat (first | (with_reducible first | exact HB.out | apply zd | apply zb | apply zc | refine zf ?_ GE313.out | refine zf ?_ GE329.out) | exact HB.out)⟩⟩
           ·rw [if_neg c79] at H
            have c79b0 : decide (t346 < 0) = false := decide_eq_false c79
            clear c79
            (first | rw [c79b0] | (simp only [i64_w, i32_w]; rw [c79b0]) | skip)
            replace H := Option.bind_eq_some_iff.mp H
            obtain ⟨t348, A800, H⟩ := H
            replace H : (if t348 = true then (laws_FnExactSourceOf.j1 kj19 l0 l1 l2 t312 (t328 != t312) t307 t310 t311 t323 t326 t327) else (laws_FnExactSourceOf.j1 kj19 l0 l1 l2 t312 true t307 t310 t311 t323 t326 t327)) = some r := H
            have A80 := za A800
            clear A800
            by_cases c81 : t348 = true
            ·subst c81
             have H1 : (laws_FnExactSourceOf.j1 kj19 l0 l1 l2 t312 (t328 != t312) t307 t310 t311 t323 t326 t327) = some r := by rw [if_pos rfl] at H; exact H
             clear H
             have H := H1
             clear H1
             have H' := za H
             clear H
             have hnb82 := NB329_313.out
             have hnc82 := NB313_329.out
             have hcz83_0 : w78.cell? ⟨gb329, 0, none⟩ = some (.slice Ao41 t323.length co41) := (zm BK329.out 0).trans rfl
             have hcz83_1 : w78.cell? ⟨gb329, 1, none⟩ = some (.int .i64 t326) := (zm BK329.out 1).trans rfl
             have hcz83_2 : w78.cell? ⟨gb329, 2, none⟩ = some (.int .i64 t327) := (zm BK329.out 2).trans rfl
             have hfz83_0 := zj BK329.out 0
             have hfz83_1 := zj BK329.out 1
             have hfz83_2 := zj BK329.out 2
             have hcz84_0 : w78.cell? ⟨gb313, 0, none⟩ = some (.slice Ao31 t307.length co31) := (zm BK313.out 0).trans rfl
             have hcz84_1 : w78.cell? ⟨gb313, 1, none⟩ = some (.int .i64 t310) := (zm BK313.out 1).trans rfl
             have hcz84_2 : w78.cell? ⟨gb313, 2, none⟩ = some (.int .i64 t311) := (zm BK313.out 2).trans rfl
             have hfz84_0 := zj BK313.out 0
             have hfz84_1 := zj BK313.out 1
             have hfz84_2 := zj BK313.out 2
             go_wp2_with (first | (go_at_call 12; (with_reducible refine (laws_eqSourcing.calls kj19 _ _ t323 t326 t327 _ _ t307 t310 t311 true _ ?side1 ?side2 ?side3 ?side4 A80.out).mono ?_); (case side1 => repeat (first | exact (Kd.R_reads' HO_330000.out).2.2 | (with_reducible refine zs ?_ _) | (with_reducible refine zt ?_ _) | (with_reducible refine zu ?_))); (case side2 => exact (Kd.R_reads' HO_330000.out).2.1); (case side3 => repeat (first | exact (Kd.R_reads' HO_314000.out).2.2 | (with_reducible refine zs ?_ _) | (with_reducible refine zt ?_ _) | (with_reducible refine zu ?_))); (case side4 => exact (Kd.R_reads' HO_314000.out).2.1); rintro e w85 ⟨rfl, hb⟩; have n0_ := za (zp zG80 hb); have n1_ := za (zp zG81 hb); have n2_ := za (zp zG77 hb); have n3_ := za (zp zG78 hb); have n4_ := za (zp (by (with_reducible repeat (first | apply zk | apply zl | apply zn)); exact HO337.out) hb); have n5_ := za (zp (by (with_reducible repeat (first | apply zk | apply zl | apply zn)); exact HO341.out) hb); have n6_ := za (zr (g := gb313) (o := .cells #[.slice Ao31 t307.length co31, .int .i64 t310, .int .i64 t311] 28 (0, 0)) zG74 hb); have n7_ := za (zr (g := gb329) (o := .cells #[.slice Ao41 t323.length co41, .int .i64 t326, .int .i64 t327] 28 (0, 0)) zG75 hb); have n8_ := za (zq zG66 hb); clear HO_11; clear HO_12; clear HO_314000; clear HO_330000; clear HO337; clear HO341; clear BK313; clear BK329; clear HB; have HO_11 := n0_; have HO_12 := n1_; have HO_314000 := n2_; have HO_330000 := n3_; have HO337 := n4_; have HO341 := n5_; have BK313 := n6_; have BK329 := n7_; have HB := n8_; clear n0_ n1_ n2_ n3_ n4_ n5_ n6_ n7_ n8_; (try clear hb); (try clear hb2); (try clear hk); (try clear hi)))
             go_meet
             case rel => exact ⟨_, ((t328 != t312)), zG82, H', ⟨by have := HJ19.out; first | omega | exact Nat.le_refl _⟩, ⟨by (with_reducible repeat (first | apply zk | apply zl | apply zn)); exact zx HO_314000.out (fun _ hk => hk.2.1)⟩, ⟨by (with_reducible repeat (first | apply zk | apply zl | apply zn)); exact zx HO_330000.out (fun _ hk => hk.2.1)⟩, ⟨by (with_reducible repeat (first | refine zh ?_ _ | refine zi ?_ | refine zg ?_ _)); exact BK313.out⟩, ⟨by (with_reducible repeat (first | refine zh ?_ _ | refine zi ?_ | refine zg ?_ _)); exact BK329.out⟩, ⟨by repeat (first | (with_reducible first | exact HB.out | apply zd | apply zb | apply zc | refine zf ?_ GE313.out | refine zf ?_ GE329.out) | exact HB.out)⟩⟩
            ·replace c81 := Bool.eq_false_iff.mpr c81
             subst c81
             have H1 : (laws_FnExactSourceOf.j1 kj19 l0 l1 l2 t312 true t307 t310 t311 t323 t326 t327) = some r := by rw [if_neg (show ¬ (false = true) by decide)] at H; exact H
             clear H
             have H := H1
             clear H1
             have H' := za H
             clear H
             have hnb86 := NB329_313.out
             have hnc86 := NB313_329.out
             have hcz87_0 : w78.cell? ⟨gb329, 0, none⟩ = some (.slice Ao41 t323.length co41) := (zm BK329.out 0).trans rfl
             have hcz87_1 : w78.cell? ⟨gb329, 1, none⟩ = some (.int .i64 t326) := (zm BK329.out 1).trans rfl
             have hcz87_2 : w78.cell? ⟨gb329, 2, none⟩ = some (.int .i64 t327) := (zm BK329.out 2).trans rfl
             have hfz87_0 := zj BK329.out 0
             have hfz87_1 := zj BK329.out 1
             have hfz87_2 := zj BK329.out 2
             have hcz88_0 : w78.cell? ⟨gb313, 0, none⟩ = some (.slice Ao31 t307.length co31) := (zm BK313.out 0).trans rfl
             have hcz88_1 : w78.cell? ⟨gb313, 1, none⟩ = some (.int .i64 t310) := (zm BK313.out 1).trans rfl
             have hcz88_2 : w78.cell? ⟨gb313, 2, none⟩ = some (.int .i64 t311) := (zm BK313.out 2).trans rfl
             have hfz88_0 := zj BK313.out 0
             have hfz88_1 := zj BK313.out 1
             have hfz88_2 := zj BK313.out 2
             go_wp2_with (first | (go_at_call 12; (with_reducible refine (laws_eqSourcing.calls kj19 _ _ t323 t326 t327 _ _ t307 t310 t311 false _ ?side1 ?side2 ?side3 ?side4 A80.out).mono ?_); (case side1 => repeat (first | exact (Kd.R_reads' HO_330000.out).2.2 | (with_reducible refine zs ?_ _) | (with_reducible refine zt ?_ _) | (with_reducible refine zu ?_))); (case side2 => exact (Kd.R_reads' HO_330000.out).2.1); (case side3 => repeat (first | exact (Kd.R_reads' HO_314000.out).2.2 | (with_reducible refine zs ?_ _) | (with_reducible refine zt ?_ _) | (with_reducible refine zu ?_))); (case side4 => exact (Kd.R_reads' HO_314000.out).2.1); rintro e w89 ⟨rfl, hb⟩; have n0_ := za (zp zG80 hb); have n1_ := za (zp zG81 hb); have n2_ := za (zp zG77 hb); have n3_ := za (zp zG78 hb); have n4_ := za (zp (by (with_reducible repeat (first | apply zk | apply zl | apply zn)); exact HO337.out) hb); have n5_ := za (zp (by (with_reducible repeat (first | apply zk | apply zl | apply zn)); exact HO341.out) hb); have n6_ := za (zr (g := gb313) (o := .cells #[.slice Ao31 t307.length co31, .int .i64 t310, .int .i64 t311] 28 (0, 0)) zG74 hb); have n7_ := za (zr (g := gb329) (o := .cells #[.slice Ao41 t323.length co41, .int .i64 t326, .int .i64 t327] 28 (0, 0)) zG75 hb); have n8_ := za (zq zG66 hb); clear HO_11; clear HO_12; clear HO_314000; clear HO_330000; clear HO337; clear HO341; clear BK313; clear BK329; clear HB; have HO_11 := n0_; have HO_12 := n1_; have HO_314000 := n2_; have HO_330000 := n3_; have HO337 := n4_; have HO341 := n5_; have BK313 := n6_; have BK329 := n7_; have HB := n8_; clear n0_ n1_ n2_ n3_ n4_ n5_ n6_ n7_ n8_; (try clear hb); (try clear hb2); (try clear hk); (try clear hi)))
             go_meet
             case rel => exact ⟨_, (true), zG82, H', ⟨by have := HJ19.out; first | omega | exact Nat.le_refl _⟩, ⟨by (with_reducible repeat (first | apply zk | apply zl | apply zn)); exact zx HO_314000.out (fun _ hk => hk.2.1)⟩, ⟨by (with_reducible repeat (first | apply zk | apply zl | apply zn)); exact zx HO_330000.out (fun _ hk => hk.2.1)⟩, ⟨by (with_reducible repeat (first | refine zh ?_ _ | refine zi ?_ | refine zg ?_ _)); exact BK313.out⟩, ⟨by (with_reducible repeat (first | refine zh ?_ _ | refine zi ?_ | refine zg ?_ _)); exact BK329.out⟩, ⟨by repeat (first | (with_reducible first | exact HB.out | apply zd | apply zb | apply zc | refine zf ?_ GE313.out | refine zf ?_ GE329.out) | exact HB.out)⟩⟩
          case rest =>
           clear HC67
           try clear c1
           try clear c2
           try clear p2
           try clear c3
           try clear c4
           try clear c4b0
           try clear c4b1
           try clear c5
           try clear c6
           try clear c6b0
           try clear c7
           try clear c8
           try clear c9
           try clear c9b0
           try clear c10
           try clear c11
           try clear c12
           try clear c13
           try clear c14
           try clear c15
           try clear c16
           try clear c17
           try clear c18
           try clear c42
           try clear c45
           try clear c46
           try clear c50
           try clear c54
           try clear c57
           try clear c60
           try clear c63
           try clear c79
           try clear c79b0
           try clear c81
           try clear c82
           try clear c86
           try clear hcz32_0
           try clear hcz32_1
           try clear hcz32_2
           try clear hcz43_0
           try clear hcz43_1
           try clear hcz43_2
           try clear hcz47_0
           try clear hcz47_1
           try clear hcz47_2
           try clear hcz48_0
           try clear hcz48_1
           try clear hcz48_2
           try clear hcz51_0
           try clear hcz51_1
           try clear hcz51_2
           try clear hcz52_0
           try clear hcz52_1
           try clear hcz52_2
           try clear hcz83_0
           try clear hcz83_1
           try clear hcz83_2
           try clear hcz84_0
           try clear hcz84_1
           try clear hcz84_2
           try clear hcz87_0
           try clear hcz87_1
           try clear hcz87_2
           try clear hcz88_0
           try clear hcz88_1
           try clear hcz88_2
           try clear hfz32_0
           try clear hfz32_1
           try clear hfz32_2
           try clear hfz43_0
           try clear hfz43_1
           try clear hfz43_2
           try clear hfz47_0
           try clear hfz47_1
           try clear hfz47_2
           try clear hfz48_0
           try clear hfz48_1
           try clear hfz48_2
           try clear hfz51_0
           try clear hfz51_1
           try clear hfz51_2
           try clear hfz52_0
           try clear hfz52_1
           try clear hfz52_2
           try clear hfz83_0
           try clear hfz83_1
           try clear hfz83_2
           try clear hfz84_0
           try clear hfz84_1
           try clear hfz84_2
           try clear hfz87_0
           try clear hfz87_1
           try clear hfz87_2
           try clear hfz88_0
           try clear hfz88_1
           try clear hfz88_2
           try clear p2
           obtain ⟨kq, x101_66, rfl, HA, HJ66, HO_314000, HO_330000, BK313, BK329, HB⟩ := hcut
           cases kq with
           | zero => exact absurd HA.out (by simp [laws_FnExactSourceOf.j1])
           | succ kj66 =>
            have H := HA.out
            clear HA
            simp only [laws_FnExactSourceOf.j1] at H
            by_cases c90 : x101_66 = true
            ·subst c90
             have H1 : (some false) = some r := by rw [if_pos rfl] at H; exact H
             clear H
             have H := H1
             clear H1
             obtain rfl := Option.some.inj H
             go_wp2
             go_ret
             exact ⟨by first | rfl | (simp [errW_none, errW_some] <;> rfl) | (simp [*, errW_none, errW_some] <;> rfl), by repeat (first | (with_reducible first | exact HB.out | apply zd | apply zb | apply zc | refine zf ?_ GE313.out | refine zf ?_ GE329.out) | exact HB.out)⟩
            ·replace c90 := Bool.eq_false_iff.mpr c90
             subst c90
             have H1 : ((laws_markSourcing.f kj66 t323 t326 t327 1).bind fun bt349 => ((laws_heldSourcing.f kj66 bt349.2 t326 t327 1).bind fun t351 => (if t351 < 0 then (some false) else (if t351 = bt349.1 then ((laws_toSourceS.f kj66 l0).bind fun t352 => ((laws_toStockedS.f kj66 l1).bind fun t355 => ((laws_toIntS.f kj66 l2).bind fun t358 => ((impl_SourceOf.f kj66 t352 t355 t358).bind fun bt361 => ((laws_eqSourcing.f kj66 bt361.1 bt361.2.1 bt361.2.2.1 t307 t310 t311).bind fun t368 => (if t368 = true then (laws_FnExactSourceOf.j2 kj66 bt349.1 (bt361.2.2.2 != t312) bt349.2 t326 t327) else (laws_FnExactSourceOf.j2 kj66 bt349.1 true bt349.2 t326 t327))))))) else (some false))))) = some r := by rw [if_neg (show ¬ (false = true) by decide)] at H; exact H
             clear H
             have H := H1
             clear H1
             replace H := Option.bind_eq_some_iff.mp H
             obtain ⟨⟨t349, t350⟩, A910, H⟩ := H
             replace H : ((laws_heldSourcing.f kj66 t350 t326 t327 1).bind fun t351 => (if t351 < 0 then (some false) else (if t351 = t349 then ((laws_toSourceS.f kj66 l0).bind fun t352 => ((laws_toStockedS.f kj66 l1).bind fun t355 => ((laws_toIntS.f kj66 l2).bind fun t358 => ((impl_SourceOf.f kj66 t352 t355 t358).bind fun bt361 => ((laws_eqSourcing.f kj66 bt361.1 bt361.2.1 bt361.2.2.1 t307 t310 t311).bind fun t368 => (if t368 = true then (laws_FnExactSourceOf.j2 kj66 t349 (bt361.2.2.2 != t312) t350 t326 t327) else (laws_FnExactSourceOf.j2 kj66 t349 true t350 t326 t327))))))) else (some false)))) = some r := H
             have A91 := za A910
             clear A910
             replace H := Option.bind_eq_some_iff.mp H
             obtain ⟨t351, A920, H⟩ := H
             replace H : (if t351 < 0 then (some false) else (if t351 = t349 then ((laws_toSourceS.f kj66 l0).bind fun t352 => ((laws_toStockedS.f kj66 l1).bind fun t355 => ((laws_toIntS.f kj66 l2).bind fun t358 => ((impl_SourceOf.f kj66 t352 t355 t358).bind fun bt361 => ((laws_eqSourcing.f kj66 bt361.1 bt361.2.1 bt361.2.2.1 t307 t310 t311).bind fun t368 => (if t368 = true then (laws_FnExactSourceOf.j2 kj66 t349 (bt361.2.2.2 != t312) t350 t326 t327) else (laws_FnExactSourceOf.j2 kj66 t349 true t350 t326 t327))))))) else (some false))) = some r := H
             have A92 := za A920
             clear A920
             by_cases c93 : t351 < 0
             ·rw [if_pos c93] at H
              have c93b0 : decide (t351 < 0) = true := decide_eq_true c93
              clear c93
              obtain rfl := Option.some.inj H
              have hnb94 := NB329_313.out
              have hnc94 := NB313_329.out
              have hcz95_0 : wc.cell? ⟨gb329, 0, none⟩ = some (.slice Ao41 t323.length co41) := (zm BK329.out 0).trans rfl
              have hcz95_1 : wc.cell? ⟨gb329, 1, none⟩ = some (.int .i64 t326) := (zm BK329.out 1).trans rfl
              have hcz95_2 : wc.cell? ⟨gb329, 2, none⟩ = some (.int .i64 t327) := (zm BK329.out 2).trans rfl
              have hfz95_0 := zj BK329.out 0
              have hfz95_1 := zj BK329.out 1
              have hfz95_2 := zj BK329.out 2
              go_wp2_with (first | ((with_reducible refine gate_callee (f := 19) rfl ?_); refine goesL_ (some 104) rfl rfl Try.func19 zG83 rfl #[.agg #[.slice Ao41 t323.length co41, .int .i64 t326, .int .i64 t327], .int .i64 1] rfl zG67 ?_; (with_reducible refine (laws_markSourcing.calls kj66 (fun k_ => some k_ = (.slice Ao41 t323.length co41 : Value).ownBlock) (.slice Ao41 t323.length co41) t323 t326 t327 1 t349 t350 w _ ?side1 ?side2 A91.out).mono ?_); (case side1 => repeat (first | (with_reducible first | exact HB.out | apply zd | apply zb | apply zc | refine zf ?_ GE313.out | refine zf ?_ GE329.out) | exact HB.out)); (case side2 => exact zat rfl HO_330000.out); rintro e w96 ⟨rfl, hy0, hb, hkp⟩; refine ⟨_, rfl, ?_⟩; have n0_ := za (zx (ok' := fun k_ => some k_ ≠ (.slice Ao41 t323.length co41 : Value).ownBlock) (zan (HO_314000.out) hkp (fun k_ hk_ hs_ => (hk_) hs_)) (fun k_ hk_ => hk_.1)); have n1_ := za (zav rfl hy0 (fun k_ e_ => HO_330000.out.1 k_ e_)); have n2_ := za (zax zG74 hkp (fun hs_ => (fun e_ => (zas HO_330000.out BK313.out (by decide)) e_) hs_)); have n3_ := za (zax zG75 hkp (fun hs_ => (fun e_ => (zas HO_330000.out BK329.out (by decide)) e_) hs_)); have n4_ := za (hb); clear HO_314000; clear HO_330000; clear BK313; clear BK329; clear HB; have HO_314000 := n0_; have HO_330000 := n1_; have BK313 := n2_; have BK329 := n3_; have HB := n4_; clear n0_ n1_ n2_ n3_ n4_; (try clear hb); (try clear hkp); (try clear hy0); have hcz97_0 : w96.cell? ⟨gb329, 0, none⟩ = some (.slice Ao41 t323.length co41) := (zm BK329.out 0).trans rfl; have hcz97_1 : w96.cell? ⟨gb329, 1, none⟩ = some (.int .i64 t326) := (zm BK329.out 1).trans rfl; have hcz97_2 : w96.cell? ⟨gb329, 2, none⟩ = some (.int .i64 t327) := (zm BK329.out 2).trans rfl; have hfz97_0 := zj BK329.out 0; have hfz97_1 := zj BK329.out 1; have hfz97_2 := zj BK329.out 2) | ((with_reducible refine gate_callee (f := 20) rfl ?_); refine goesL_ (some 107) rfl rfl Try.func20 zG83 rfl #[.agg #[.slice Ao41 t350.length co41, .int .i64 t326, .int .i64 t327], .int .i64 1] rfl (by (try simp only [List.map_toArray, List.map_cons, List.map_nil]); first | done | (rw [show t350.length = t323.length from (Kd.R_reads' HO_330000.out).1.symm] <;> rfl) | rfl | (simp only [List.length_drop, List.length_take]; rfl)) ?_; (with_reducible refine (laws_heldSourcing.calls kj66 _ _ t350 t326 t327 1 t351 _ ?side1 ?side2 A92.out).mono ?_); (case side1 => repeat (first | exact (Kd.R_reads' HO_330000.out).2.2 | (with_reducible refine zs ?_ _) | (with_reducible refine zt ?_ _) | (with_reducible refine zu ?_))); (case side2 => rw [show t350.length = t323.length from (Kd.R_reads' HO_330000.out).1.symm]; exact (Kd.R_reads' HO_330000.out).2.1); rintro e w98 ⟨rfl, hb⟩; refine ⟨_, rfl, ?_⟩; have n0_ := za (zp zG77 hb); have n1_ := za (zp zG78 hb); have n2_ := za (zr (g := gb313) (o := .cells #[.slice Ao31 t307.length co31, .int .i64 t310, .int .i64 t311] 28 (0, 0)) zG74 hb); have n3_ := za (zr (g := gb329) (o := .cells #[.slice Ao41 t323.length co41, .int .i64 t326, .int .i64 t327] 28 (0, 0)) zG75 hb); have n4_ := za (zq zG66 hb); clear HO_314000; clear HO_330000; clear BK313; clear BK329; clear HB; have HO_314000 := n0_; have HO_330000 := n1_; have BK313 := n2_; have BK329 := n3_; have HB := n4_; clear n0_ n1_ n2_ n3_ n4_; (try clear hb); (try clear hb2); (try clear hk); (try clear hi)))
              go_ret
              exact ⟨by first | rfl | (simp [errW_none, errW_some] <;> rfl) | (simp [*, errW_none, errW_some] <;> rfl), by repeat (first | (with_reducible first | exact HB.out | apply zd | apply zb | apply zc | refine zf ?_ GE313.out | refine zf ?_ GE329.out) | exact HB.out)⟩
             ·rw [if_neg c93] at H
              have c93b0 : decide (t351 < 0) = false := decide_eq_false c93
              clear c93
              by_cases c99 : t351 = t349
              ·rw [if_pos c99] at H
               have c99b0 : (t351 == t349) = true := beq_iff_eq.mpr c99
               have c99b1 : (t351 != t349) = false := bne_eq_false_iff_eq.mpr c99
               clear c99
               replace H := Option.bind_eq_some_iff.mp H
               obtain ⟨t352, A1000, H⟩ := H
               replace H : ((laws_toStockedS.f kj66 l1).bind fun t355 => ((laws_toIntS.f kj66 l2).bind fun t358 => ((impl_SourceOf.f kj66 t352 t355 t358).bind fun bt361 => ((laws_eqSourcing.f kj66 bt361.1 bt361.2.1 bt361.2.2.1 t307 t310 t311).bind fun t368 => (if t368 = true then (laws_FnExactSourceOf.j2 kj66 t349 (bt361.2.2.2 != t312) t350 t326 t327) else (laws_FnExactSourceOf.j2 kj66 t349 true t350 t326 t327)))))) = some r := H
               have A100 := za A1000
               clear A1000
               replace H := Option.bind_eq_some_iff.mp H
               obtain ⟨t355, A1010, H⟩ := H
               replace H : ((laws_toIntS.f kj66 l2).bind fun t358 => ((impl_SourceOf.f kj66 t352 t355 t358).bind fun bt361 => ((laws_eqSourcing.f kj66 bt361.1 bt361.2.1 bt361.2.2.1 t307 t310 t311).bind fun t368 => (if t368 = true then (laws_FnExactSourceOf.j2 kj66 t349 (bt361.2.2.2 != t312) t350 t326 t327) else (laws_FnExactSourceOf.j2 kj66 t349 true t350 t326 t327))))) = some r := H
               have A101 := za A1010
               clear A1010
               replace H := Option.bind_eq_some_iff.mp H
               obtain ⟨t358, A1020, H⟩ := H
               replace H : ((impl_SourceOf.f kj66 t352 t355 t358).bind fun bt361 => ((laws_eqSourcing.f kj66 bt361.1 bt361.2.1 bt361.2.2.1 t307 t310 t311).bind fun t368 => (if t368 = true then (laws_FnExactSourceOf.j2 kj66 t349 (bt361.2.2.2 != t312) t350 t326 t327) else (laws_FnExactSourceOf.j2 kj66 t349 true t350 t326 t327)))) = some r := H
               have A102 := za A1020
               clear A1020
               replace H := Option.bind_eq_some_iff.mp H
               obtain ⟨⟨t361, t364, t365, t366⟩, A1030, H⟩ := H
               replace H : ((laws_eqSourcing.f kj66 t361 t364 t365 t307 t310 t311).bind fun t368 => (if t368 = true then (laws_FnExactSourceOf.j2 kj66 t349 (t366 != t312) t350 t326 t327) else (laws_FnExactSourceOf.j2 kj66 t349 true t350 t326 t327))) = some r := H
               have A103 := za A1030
               clear A1030
               have HC104 := za H
               clear H
               have hnb105 := NB329_313.out
               have hnc105 := NB313_329.out
               have hcz106_0 : wc.cell? ⟨gb329, 0, none⟩ = some (.slice Ao41 t323.length co41) := (zm BK329.out 0).trans rfl
               have hcz106_1 : wc.cell? ⟨gb329, 1, none⟩ = some (.int .i64 t326) := (zm BK329.out 1).trans rfl
               have hcz106_2 : wc.cell? ⟨gb329, 2, none⟩ = some (.int .i64 t327) := (zm BK329.out 2).trans rfl
               have hfz106_0 := zj BK329.out 0
               have hfz106_1 := zj BK329.out 1
               have hfz106_2 := zj BK329.out 2
               go_upto_region 38 with (first | ((with_reducible refine gate_callee (f := 19) rfl ?_); refine goesL_ (some 104) rfl rfl Try.func19 zG83 rfl #[.agg #[.slice Ao41 t323.length co41, .int .i64 t326, .int .i64 t327], .int .i64 1] rfl zG67 ?_; (with_reducible refine (laws_markSourcing.calls kj66 (fun k_ => some k_ = (.slice Ao41 t323.length co41 : Value).ownBlock) (.slice Ao41 t323.length co41) t323 t326 t327 1 t349 t350 w _ ?side1 ?side2 A91.out).mono ?_); (case side1 => repeat (first | (with_reducible first | exact HB.out | apply zd | apply zb | apply zc | refine zf ?_ GE313.out | refine zf ?_ GE329.out) | exact HB.out)); (case side2 => exact zat rfl HO_330000.out); rintro e w107 ⟨rfl, hy0, hb, hkp⟩; refine ⟨_, rfl, ?_⟩; have n0_ := za (zx (ok' := fun k_ => some k_ ≠ (.slice Ao41 t323.length co41 : Value).ownBlock) (zan (HO_314000.out) hkp (fun k_ hk_ hs_ => (hk_) hs_)) (fun k_ hk_ => hk_.1)); have n1_ := za (zav rfl hy0 (fun k_ e_ => HO_330000.out.1 k_ e_)); have n2_ := za (zax zG74 hkp (fun hs_ => (fun e_ => (zas HO_330000.out BK313.out (by decide)) e_) hs_)); have n3_ := za (zax zG75 hkp (fun hs_ => (fun e_ => (zas HO_330000.out BK329.out (by decide)) e_) hs_)); have n4_ := za (hb); clear HO_314000; clear HO_330000; clear BK313; clear BK329; clear HB; have HO_314000 := n0_; have HO_330000 := n1_; have BK313 := n2_; have BK329 := n3_; have HB := n4_; clear n0_ n1_ n2_ n3_ n4_; (try clear hb); (try clear hkp); (try clear hy0); have hcz108_0 : w107.cell? ⟨gb329, 0, none⟩ = some (.slice Ao41 t323.length co41) := (zm BK329.out 0).trans rfl; have hcz108_1 : w107.cell? ⟨gb329, 1, none⟩ = some (.int .i64 t326) := (zm BK329.out 1).trans rfl; have hcz108_2 : w107.cell? ⟨gb329, 2, none⟩ = some (.int .i64 t327) := (zm BK329.out 2).trans rfl; have hfz108_0 := zj BK329.out 0; have hfz108_1 := zj BK329.out 1; have hfz108_2 := zj BK329.out 2) | ((with_reducible refine gate_callee (f := 20) rfl ?_); refine goesL_ (some 107) rfl rfl Try.func20 zG83 rfl #[.agg #[.slice Ao41 t350.length co41, .int .i64 t326, .int .i64 t327], .int .i64 1] rfl (by (try simp only [List.map_toArray, List.map_cons, List.map_nil]); first | done | (rw [show t350.length = t323.length from (Kd.R_reads' HO_330000.out).1.symm] <;> rfl) | rfl | (simp only [List.length_drop, List.length_take]; rfl)) ?_; (with_reducible refine (laws_heldSourcing.calls kj66 _ _ t350 t326 t327 1 t351 _ ?side1 ?side2 A92.out).mono ?_); (case side1 => repeat (first | exact (Kd.R_reads' HO_330000.out).2.2 | (with_reducible refine zs ?_ _) | (with_reducible refine zt ?_ _) | (with_reducible refine zu ?_))); (case side2 => rw [show t350.length = t323.length from (Kd.R_reads' HO_330000.out).1.symm]; exact (Kd.R_reads' HO_330000.out).2.1); rintro e w109 ⟨rfl, hb⟩; refine ⟨_, rfl, ?_⟩; have n0_ := za (zp zG77 hb); have n1_ := za (zp zG78 hb); have n2_ := za (zr (g := gb313) (o := .cells #[.slice Ao31 t307.length co31, .int .i64 t310, .int .i64 t311] 28 (0, 0)) zG74 hb); have n3_ := za (zr (g := gb329) (o := .cells #[.slice Ao41 t323.length co41, .int .i64 t326, .int .i64 t327] 28 (0, 0)) zG75 hb); have n4_ := za (zq zG66 hb); clear HO_314000; clear HO_330000; clear BK313; clear BK329; clear HB; have HO_314000 := n0_; have HO_330000 := n1_; have BK313 := n2_; have BK329 := n3_; have HB := n4_; clear n0_ n1_ n2_ n3_ n4_; (try clear hb); (try clear hb2); (try clear hk); (try clear hi)) | ((with_reducible refine gate_callee (f := 8) rfl ?_); refine goesL_ (some 115) rfl rfl Try.func8 zG83 rfl #[.slice A0 l0.length c0] rfl zG67 ?_; (with_reducible refine (laws_toSourceS.calls kj66 _ _ l0 t352 _ ?side1 ?side2 A100.out).mono ?_); (case side1 => repeat (first | exact (zw HR0.out HB.out) | (with_reducible refine zs ?_ _) | (with_reducible refine zt ?_ _) | (with_reducible refine zu ?_))); (case side2 => exact HC0.out); rintro e w110 ⟨v353, rfl, ho0, hb⟩; refine ⟨_, rfl, ?_⟩; have n0_ := za (zp zG77 hb); have n1_ := za (zp zG78 hb); have n2_ := za (zbe ho0 (zo zG66)); have n3_ := za (zr (g := gb313) (o := .cells #[.slice Ao31 t307.length co31, .int .i64 t310, .int .i64 t311] 28 (0, 0)) zG74 hb); have n4_ := za (zr (g := gb329) (o := .cells #[.slice Ao41 t323.length co41, .int .i64 t326, .int .i64 t327] 28 (0, 0)) zG75 hb); have n5_ := za (zq zG66 hb); clear HO_314000; clear HO_330000; clear BK313; clear BK329; clear HB; have HO_314000 := n0_; have HO_330000 := n1_; have HO354 := n2_; have BK313 := n3_; have BK329 := n4_; have HB := n5_; clear n0_ n1_ n2_ n3_ n4_ n5_; (try clear hb); (try clear hb2); (try clear hk); (try clear hi); (try clear ho0)) | ((with_reducible refine gate_callee (f := 9) rfl ?_); refine goesL_ (some 117) rfl rfl Try.func9 zG83 rfl #[.slice A1 l1.length c1] rfl zG67 ?_; (with_reducible refine (laws_toStockedS.calls kj66 _ _ l1 t355 _ ?side1 ?side2 A101.out).mono ?_); (case side1 => repeat (first | exact (zw HR1.out HB.out) | (with_reducible refine zs ?_ _) | (with_reducible refine zt ?_ _) | (with_reducible refine zu ?_))); (case side2 => exact HC1.out); rintro e w111 ⟨v356, rfl, ho0, hb⟩; refine ⟨_, rfl, ?_⟩; have n0_ := za (zp zG77 hb); have n1_ := za (zp zG78 hb); have n2_ := za (zaq (by (with_reducible repeat (first | apply zz | apply zaa | apply zab)); exact HO354.out) (zah ho0) hb); have n3_ := za (zaj ho0 (zo zG66)); have n4_ := za (zr (g := gb313) (o := .cells #[.slice Ao31 t307.length co31, .int .i64 t310, .int .i64 t311] 28 (0, 0)) zG74 hb); have n5_ := za (zr (g := gb329) (o := .cells #[.slice Ao41 t323.length co41, .int .i64 t326, .int .i64 t327] 28 (0, 0)) zG75 hb); have n6_ := za (zq zG66 hb); clear HO_314000; clear HO_330000; clear HO354; clear BK313; clear BK329; clear HB; have HO_314000 := n0_; have HO_330000 := n1_; have HO354 := n2_; have HO357 := n3_; have BK313 := n4_; have BK329 := n5_; have HB := n6_; clear n0_ n1_ n2_ n3_ n4_ n5_ n6_; (try clear hb); (try clear hb2); (try clear hk); (try clear hi); (try clear ho0)) | ((with_reducible refine gate_callee (f := 10) rfl ?_); refine goesL_ (some 119) rfl rfl Try.func10 zG83 rfl #[.slice A2 l2.length c2] rfl zG67 ?_; (with_reducible refine (laws_toIntS.calls kj66 _ _ l2 t358 _ ?side1 ?side2 A102.out).mono ?_); (case side1 => repeat (first | exact (zw HR2.out HB.out) | (with_reducible refine zs ?_ _) | (with_reducible refine zt ?_ _) | (with_reducible refine zu ?_))); (case side2 => exact HC2.out); rintro e w112 ⟨v359, rfl, ho0, hb⟩; refine ⟨_, rfl, ?_⟩; have n0_ := za (zak zG77 (zah ho0) hb); have n1_ := za (zak zG78 (zah ho0) hb); have n2_ := za (zae (by (with_reducible repeat (first | apply zz | apply zaa | apply zab)); exact HO354.out) hb); have n3_ := za (zp (by (with_reducible repeat (first | apply zk | apply zl | apply zn)); exact HO357.out) hb); have n4_ := za (zaj (zao (zao ho0 (zap zG77)) (zap zG78)) (zo zG66)); have n5_ := za (zr (g := gb313) (o := .cells #[.slice Ao31 t307.length co31, .int .i64 t310, .int .i64 t311] 28 (0, 0)) zG74 hb); have n6_ := za (zr (g := gb329) (o := .cells #[.slice Ao41 t323.length co41, .int .i64 t326, .int .i64 t327] 28 (0, 0)) zG75 hb); have n7_ := za (zq zG66 hb); clear HO_314000; clear HO_330000; clear HO354; clear HO357; clear BK313; clear BK329; clear HB; have HO_314000 := n0_; have HO_330000 := n1_; have HO354 := n2_; have HO357 := n3_; have HO360 := n4_; have BK313 := n5_; have BK329 := n6_; have HB := n7_; clear n0_ n1_ n2_ n3_ n4_ n5_ n6_ n7_; (try clear hb); (try clear hb2); (try clear hk); (try clear hi); (try clear ho0); obtain ⟨Ao113, co113, eo113⟩ := zbh HO354.out; subst eo113; obtain ⟨Ao114, co114, eo114⟩ := zaf HO357.out; subst eo114; obtain ⟨Ao115, co115, eo115⟩ := zaf HO360.out; subst eo115) | ((with_reducible refine gate_callee (f := 11) rfl ?_); refine goesL_ (some 120) rfl rfl Try.func11 zG83 rfl #[.slice Ao113 t352.length co113, .slice Ao114 t355.length co114, .slice Ao115 t358.length co115] rfl zG67 ?_; (with_reducible refine (impl_SourceOf.calls kj66 _ _ t352 _ _ t355 _ _ t358 t361 t364 t365 t366 _ ?side1 ?side2 ?side3 ?side4 ?side5 ?side6 A103.out).mono ?_); (case side1 => repeat (first | exact (zai HO354.out).2.2 | (with_reducible refine zs ?_ _) | (with_reducible refine zt ?_ _) | (with_reducible refine zu ?_))); (case side2 => exact (zai HO354.out).2.1); (case side3 => repeat (first | exact (Kd.R_reads' HO357.out).2.2 | (with_reducible refine zs ?_ _) | (with_reducible refine zt ?_ _) | (with_reducible refine zu ?_))); (case side4 => exact (Kd.R_reads' HO357.out).2.1); (case side5 => repeat (first | exact (Kd.R_reads' HO360.out).2.2 | (with_reducible refine zs ?_ _) | (with_reducible refine zt ?_ _) | (with_reducible refine zu ?_))); (case side6 => exact (Kd.R_reads' HO360.out).2.1); rintro e w116 ⟨v362, rfl, ho0, hb⟩; refine ⟨_, rfl, ?_⟩; have n0_ := za (zak zG77 (zah ho0) hb); have n1_ := za (zak zG78 (zah ho0) hb); have n2_ := za (zae (by (with_reducible repeat (first | apply zz | apply zaa | apply zab)); exact HO354.out) hb); have n3_ := za (zp (by (with_reducible repeat (first | apply zk | apply zl | apply zn)); exact HO357.out) hb); have n4_ := za (zak (by (with_reducible repeat (first | apply zk | apply zl | apply zn)); exact HO360.out) (zah ho0) hb); have n5_ := za (zaj (zao (zao (zao ho0 (zap zG77)) (zap zG78)) (zap (by (with_reducible repeat (first | apply zk | apply zl | apply zn)); exact HO360.out))) (zo zG66)); have n6_ := za (zr (g := gb313) (o := .cells #[.slice Ao31 t307.length co31, .int .i64 t310, .int .i64 t311] 28 (0, 0)) zG74 hb); have n7_ := za (zr (g := gb329) (o := .cells #[.slice Ao41 t323.length co41, .int .i64 t326, .int .i64 t327] 28 (0, 0)) zG75 hb); have n8_ := za (zq zG66 hb); clear HO_314000; clear HO_330000; clear HO354; clear HO357; clear HO360; clear BK313; clear BK329; clear HB; have HO_314000 := n0_; have HO_330000 := n1_; have HO354 := n2_; have HO357 := n3_; have HO360 := n4_; have HO363 := n5_; have BK313 := n6_; have BK329 := n7_; have HB := n8_; clear n0_ n1_ n2_ n3_ n4_ n5_ n6_ n7_ n8_; (try clear hb); (try clear hb2); (try clear hk); (try clear hi); (try clear ho0)) | ((with_reducible refine gate_dst (N := 18) rfl ?_); refine box_event ?hg (N := 18) ?hd (cs := #[.slice none 0 0, .int .i64 0, .int .i64 0]) (t := 28) ?hr ?_; (case hd => rfl); (case hg => rfl); (case hr => first | (go_simp; done) | (go_simp; rfl)); intro gb367 hg w117 hbox hb; have n0_ := za (zp zG77 hb); have n1_ := za (zp zG78 hb); have n2_ := za (zae (by (with_reducible repeat (first | apply zz | apply zaa | apply zab)); exact HO354.out) hb); have n3_ := za (zp (by (with_reducible repeat (first | apply zk | apply zl | apply zn)); exact HO357.out) hb); have n4_ := za (zp (by (with_reducible repeat (first | apply zk | apply zl | apply zn)); exact HO360.out) hb); have n5_ := za (zp (by (with_reducible repeat (first | apply zk | apply zl | apply zn)); exact HO363.out) hb); have n6_ := za (zr (g := gb313) (o := .cells #[.slice Ao31 t307.length co31, .int .i64 t310, .int .i64 t311] 28 (0, 0)) zG74 hb); have n7_ := za (zr (g := gb329) (o := .cells #[.slice Ao41 t323.length co41, .int .i64 t326, .int .i64 t327] 28 (0, 0)) zG75 hb); have n8_ := za (zq zG66 hb); have n9_ := za (hbox); have n10_ := za ((by rw [hg]; exact (zo zG66) : w.heap.size ≤ gb367)); have n11_ := za ((by rw [hg]; exact (zo zG66) : w.heap.size ≤ gb367)); have n12_ := za ((by rw [hg]; exact Nat.ne_of_lt (zad (g := gb313) (o := .cells #[.slice Ao31 t307.length co31, .int .i64 t310, .int .i64 t311] 28 (0, 0)) zG74) : gb313 ≠ gb367)); have n13_ := za ((by rw [hg]; exact Nat.ne_of_gt (zad (g := gb313) (o := .cells #[.slice Ao31 t307.length co31, .int .i64 t310, .int .i64 t311] 28 (0, 0)) zG74) : gb367 ≠ gb313)); have n14_ := za ((by rw [hg]; exact Nat.ne_of_lt (zad (g := gb329) (o := .cells #[.slice Ao41 t323.length co41, .int .i64 t326, .int .i64 t327] 28 (0, 0)) zG75) : gb329 ≠ gb367)); have n15_ := za ((by rw [hg]; exact Nat.ne_of_gt (zad (g := gb329) (o := .cells #[.slice Ao41 t323.length co41, .int .i64 t326, .int .i64 t327] 28 (0, 0)) zG75) : gb367 ≠ gb329)); clear HO_314000; clear HO_330000; clear HO354; clear HO357; clear HO360; clear HO363; clear BK313; clear BK329; clear HB; have HO_314000 := n0_; have HO_330000 := n1_; have HO354 := n2_; have HO357 := n3_; have HO360 := n4_; have HO363 := n5_; have BK313 := n6_; have BK329 := n7_; have HB := n8_; have BK367 := n9_; have GW367 := n10_; have GE367 := n11_; have NB313_367 := n12_; have NB367_313 := n13_; have NB329_367 := n14_; have NB367_329 := n15_; clear n0_ n1_ n2_ n3_ n4_ n5_ n6_ n7_ n8_ n9_ n10_ n11_ n12_ n13_ n14_ n15_; clear hb hbox hg; obtain ⟨Ao118, co118, eo118⟩ := zaf HO363.out; subst eo118; have hnb119 := NB367_313.out; have hnc119 := NB313_367.out; have hnb120 := NB367_329.out; have hnc120 := NB329_367.out; have hcz121_0 : w117.cell? ⟨gb367, 0, none⟩ = some (.slice none 0 0) := (zm BK367.out 0).trans rfl; have hcz121_1 : w117.cell? ⟨gb367, 1, none⟩ = some (.int .i64 0) := (zm BK367.out 1).trans rfl; have hcz121_2 : w117.cell? ⟨gb367, 2, none⟩ = some (.int .i64 0) := (zm BK367.out 2).trans rfl; have hfz121_0 := zj BK367.out 0; have hfz121_1 := zj BK367.out 1; have hfz121_2 := zj BK367.out 2))
               (try simp only [Act.put, List.setIfInBounds_toArray, List.set_cons_zero, List.set_cons_succ])
               go_cut [131] (fun v131 wc => ∃ (kq : Nat) (x131_103 : Bool), v131 = .bool x131_103 ∧ Aside0 (laws_FnExactSourceOf.j2 kq t349 x131_103 t350 t326 t327 = some r) ∧ Aside0 (kq ≤ kj66) ∧ Aside0 (Kd.R (Kd.int .i64) 3 wc w.heap.size (fun k_ => some k_ ≠ ((.slice Ao41 t323.length co41) : Value).ownBlock ∧ some k_ ≠ ((.slice Ao118 t361.length co118) : Value).ownBlock) (.slice Ao31 t307.length co31) t307) ∧ Aside0 (Kd.R (Kd.int .i64) 3 wc w.heap.size (fun k_ => some k_ ≠ ((.slice Ao31 t307.length co31) : Value).ownBlock ∧ some k_ ≠ ((.slice Ao118 t361.length co118) : Value).ownBlock) (.slice Ao41 t323.length co41) t350) ∧ Aside0 (Kd.R (Kd.int .i64) 3 wc w.heap.size (fun k_ => some k_ ≠ ((.slice Ao31 t307.length co31) : Value).ownBlock ∧ some k_ ≠ ((.slice Ao41 t323.length co41) : Value).ownBlock) (.slice Ao118 t361.length co118) t361) ∧ Aside0 (wc.heap[gb313]? = some (.cells #[(.slice Ao31 t307.length co31), .int .i64 t310, .int .i64 t311] 28 (0, 0))) ∧ Aside0 (wc.heap[gb329]? = some (.cells #[(.slice Ao41 t323.length co41), .int .i64 t326, .int .i64 t327] 28 (0, 0))) ∧ Aside0 (wc.heap[gb367]? = some (.cells #[(.slice Ao118 t361.length co118), .int .i64 t364, .int .i64 t365] 28 (0, 0))) ∧ Aside0 (Below w.heap.size w wc))
               case first =>
                have H := HC104.out
                clear HC104
                replace H := Option.bind_eq_some_iff.mp H
                obtain ⟨t368, A1220, H⟩ := H
                replace H : (if t368 = true then (laws_FnExactSourceOf.j2 kj66 t349 (t366 != t312) t350 t326 t327) else (laws_FnExactSourceOf.j2 kj66 t349 true t350 t326 t327)) = some r := H
                have A122 := za A1220
                clear A1220
                by_cases c123 : t368 = true
                ·subst c123
                 have H1 : (laws_FnExactSourceOf.j2 kj66 t349 (t366 != t312) t350 t326 t327) = some r := by rw [if_pos rfl] at H; exact H
                 clear H
                 have H := H1
                 clear H1
                 have H' := za H
                 clear H
                 have hnb124 := NB367_313.out
                 have hnc124 := NB313_367.out
                 have hnb125 := NB367_329.out
                 have hnc125 := NB329_367.out
                 have hcz126_0 : w117.cell? ⟨gb367, 0, none⟩ = some (.slice none 0 0) := (zm BK367.out 0).trans rfl
                 have hcz126_1 : w117.cell? ⟨gb367, 1, none⟩ = some (.int .i64 0) := (zm BK367.out 1).trans rfl
                 have hcz126_2 : w117.cell? ⟨gb367, 2, none⟩ = some (.int .i64 0) := (zm BK367.out 2).trans rfl
                 have hfz126_0 := zj BK367.out 0
                 have hfz126_1 := zj BK367.out 1
                 have hfz126_2 := zj BK367.out 2
                 have hnb127 := NB313_329.out
                 have hnc127 := NB329_313.out
                 have hcz128_0 : w117.cell? ⟨gb313, 0, none⟩ = some (.slice Ao31 t307.length co31) := (zm BK313.out 0).trans rfl
                 have hcz128_1 : w117.cell? ⟨gb313, 1, none⟩ = some (.int .i64 t310) := (zm BK313.out 1).trans rfl
                 have hcz128_2 : w117.cell? ⟨gb313, 2, none⟩ = some (.int .i64 t311) := (zm BK313.out 2).trans rfl
                 have hfz128_0 := zj BK313.out 0
                 have hfz128_1 := zj BK313.out 1
                 have hfz128_2 := zj BK313.out 2
                 go_wp2_with (first | ((with_reducible refine gate_callee (f := 12) rfl ?_); refine goesL_ (some 125) rfl rfl Try.func12 zG83 rfl #[.agg #[.slice Ao118 t361.length co118, .int .i64 t364, .int .i64 t365], .agg #[.slice Ao31 t307.length co31, .int .i64 t310, .int .i64 t311]] rfl zG67 ?_; (with_reducible refine (laws_eqSourcing.calls kj66 _ _ t361 t364 t365 _ _ t307 t310 t311 true _ ?side1 ?side2 ?side3 ?side4 A122.out).mono ?_); (case side1 => refine (Kd.R_reads' (e := 3) (base := w.heap.size) (ok := fun k_ => (((True ∧ some k_ ≠ (.slice Ao31 t307.length co31 : Value).ownBlock) ∧ some k_ ≠ (.slice Ao41 t323.length co41 : Value).ownBlock) ∧ some k_ ≠ (.slice Ao115 t358.length co115 : Value).ownBlock)) (n := t361.length) (c := co118) ?_).2.2; exact (by (with_reducible repeat (first | apply zk | apply zl | apply zn)); exact (zx (zv (p := ⟨gb367, 2, none⟩) (zv (p := ⟨gb367, 1, none⟩) (zv (p := ⟨gb367, 0, none⟩) (zac HO363.out BK367.out (by decide)) (fun _ hk => hk.2) (.slice Ao118 t361.length co118)) (fun _ hk => hk.2) (.int .i64 t364)) (fun _ hk => hk.2) (.int .i64 t365)) (fun _ h_ => h_.1)))); (case side2 => exact (Kd.R_reads' HO363.out).2.1); (case side3 => refine (Kd.R_reads' (e := 3) (base := w.heap.size) (ok := fun k_ => ((some k_ ≠ (.slice Ao41 t323.length co41 : Value).ownBlock ∧ some k_ ≠ (.slice Ao115 t358.length co115 : Value).ownBlock) ∧ some k_ ≠ (.slice Ao118 t361.length co118 : Value).ownBlock)) (n := t307.length) (c := co31) ?_).2.2; exact (by (with_reducible repeat (first | apply zk | apply zl | apply zn)); exact (zx (zv (p := ⟨gb367, 2, none⟩) (zv (p := ⟨gb367, 1, none⟩) (zv (p := ⟨gb367, 0, none⟩) (zac HO_314000.out BK367.out (by decide)) (fun _ hk => hk.2) (.slice Ao118 t361.length co118)) (fun _ hk => hk.2) (.int .i64 t364)) (fun _ hk => hk.2) (.int .i64 t365)) (fun _ h_ => h_.1)))); (case side4 => exact (Kd.R_reads' HO_314000.out).2.1); rintro e w129 ⟨rfl, hb⟩; refine ⟨_, rfl, ?_⟩; have n0_ := za (zp (by (with_reducible repeat (first | apply zk | apply zl | apply zn)); exact (zx (zv (p := ⟨gb367, 2, none⟩) (zv (p := ⟨gb367, 1, none⟩) (zv (p := ⟨gb367, 0, none⟩) (zac HO_314000.out BK367.out (by decide)) (fun _ hk => hk.2) (.slice Ao118 t361.length co118)) (fun _ hk => hk.2) (.int .i64 t364)) (fun _ hk => hk.2) (.int .i64 t365)) (fun _ h_ => h_.1))) hb); have n1_ := za (zp (by (with_reducible repeat (first | apply zk | apply zl | apply zn)); exact (zx (zv (p := ⟨gb367, 2, none⟩) (zv (p := ⟨gb367, 1, none⟩) (zv (p := ⟨gb367, 0, none⟩) (zac HO_330000.out BK367.out (by decide)) (fun _ hk => hk.2) (.slice Ao118 t361.length co118)) (fun _ hk => hk.2) (.int .i64 t364)) (fun _ hk => hk.2) (.int .i64 t365)) (fun _ h_ => h_.1))) hb); have n2_ := za (zae (by (with_reducible repeat (first | apply zz | apply zaa | apply zab)); exact (zau (zam (p := ⟨gb367, 2, none⟩) (zam (p := ⟨gb367, 1, none⟩) (zam (p := ⟨gb367, 0, none⟩) (zbf HO354.out BK367.out (by decide)) (fun _ hk => hk.2) (.slice Ao118 t361.length co118)) (fun _ hk => hk.2) (.int .i64 t364)) (fun _ hk => hk.2) (.int .i64 t365)) (fun _ h_ => h_.1))) hb); have n3_ := za (zp (by (with_reducible repeat (first | apply zk | apply zl | apply zn)); exact (zx (zv (p := ⟨gb367, 2, none⟩) (zv (p := ⟨gb367, 1, none⟩) (zv (p := ⟨gb367, 0, none⟩) (zac HO357.out BK367.out (by decide)) (fun _ hk => hk.2) (.slice Ao118 t361.length co118)) (fun _ hk => hk.2) (.int .i64 t364)) (fun _ hk => hk.2) (.int .i64 t365)) (fun _ h_ => h_.1))) hb); have n4_ := za (zp (by (with_reducible repeat (first | apply zk | apply zl | apply zn)); exact (zx (zv (p := ⟨gb367, 2, none⟩) (zv (p := ⟨gb367, 1, none⟩) (zv (p := ⟨gb367, 0, none⟩) (zac HO360.out BK367.out (by decide)) (fun _ hk => hk.2) (.slice Ao118 t361.length co118)) (fun _ hk => hk.2) (.int .i64 t364)) (fun _ hk => hk.2) (.int .i64 t365)) (fun _ h_ => h_.1))) hb); have n5_ := za (zp (by (with_reducible repeat (first | apply zk | apply zl | apply zn)); exact (zx (zv (p := ⟨gb367, 2, none⟩) (zv (p := ⟨gb367, 1, none⟩) (zv (p := ⟨gb367, 0, none⟩) (zac HO363.out BK367.out (by decide)) (fun _ hk => hk.2) (.slice Ao118 t361.length co118)) (fun _ hk => hk.2) (.int .i64 t364)) (fun _ hk => hk.2) (.int .i64 t365)) (fun _ h_ => h_.1))) hb); have n6_ := za (zr (g := gb313) (o := .cells #[.slice Ao31 t307.length co31, .int .i64 t310, .int .i64 t311] 28 (0, 0)) (by (with_reducible repeat (first | refine zh ?_ _ | refine zi ?_ | refine zg ?_ _)); refine zag ?_ NB313_367.out _; (with_reducible repeat (first | refine zh ?_ _ | refine zi ?_ | refine zg ?_ _)); refine zag ?_ NB313_367.out _; (with_reducible repeat (first | refine zh ?_ _ | refine zi ?_ | refine zg ?_ _)); refine zag ?_ NB313_367.out _; (with_reducible repeat (first | refine zh ?_ _ | refine zi ?_ | refine zg ?_ _)); exact BK313.out) hb); have n7_ := za (zr (g := gb329) (o := .cells #[.slice Ao41 t323.length co41, .int .i64 t326, .int .i64 t327] 28 (0, 0)) (by (with_reducible repeat (first | refine zh ?_ _ | refine zi ?_ | refine zg ?_ _)); refine zag ?_ NB329_367.out _; (with_reducible repeat (first | refine zh ?_ _ | refine zi ?_ | refine zg ?_ _)); refine zag ?_ NB329_367.out _; (with_reducible repeat (first | refine zh ?_ _ | refine zi ?_ | refine zg ?_ _)); refine zag ?_ NB329_367.out _; (with_reducible repeat (first | refine zh ?_ _ | refine zi ?_ | refine zg ?_ _)); exact BK329.out) hb); have n8_ := za (zr (g := gb367) (o := .cells #[.slice Ao118 t361.length co118, .int .i64 t364, .int .i64 t365] 28 (0, 0)) (by (with_reducible repeat (first | refine zh ?_ _ | refine zi ?_ | refine zg ?_ _)); refine zy (cs := #[.slice Ao118 t361.length co118, .int .i64 t364, .int .i64 0]) ?_ 2 _ rfl; (with_reducible repeat (first | refine zh ?_ _ | refine zi ?_ | refine zg ?_ _)); refine zy (cs := #[.slice Ao118 t361.length co118, .int .i64 0, .int .i64 0]) ?_ 1 _ rfl; (with_reducible repeat (first | refine zh ?_ _ | refine zi ?_ | refine zg ?_ _)); refine zy (cs := #[.slice none 0 0, .int .i64 0, .int .i64 0]) ?_ 0 _ rfl; (with_reducible repeat (first | refine zh ?_ _ | refine zi ?_ | refine zg ?_ _)); exact BK367.out) hb); have n9_ := za (zq (by repeat (first | (with_reducible first | exact HB.out | apply zd | apply zb | apply zc | refine zf ?_ GE313.out | refine zf ?_ GE329.out | refine zf ?_ GE367.out) | exact HB.out)) hb); clear HO_314000; clear HO_330000; clear HO354; clear HO357; clear HO360; clear HO363; clear BK313; clear BK329; clear BK367; clear HB; have HO_314000 := n0_; have HO_330000 := n1_; have HO354 := n2_; have HO357 := n3_; have HO360 := n4_; have HO363 := n5_; have BK313 := n6_; have BK329 := n7_; have BK367 := n8_; have HB := n9_; clear n0_ n1_ n2_ n3_ n4_ n5_ n6_ n7_ n8_ n9_; (try clear hb); (try clear hb2); (try clear hk); (try clear hi)))
                 go_meet
                 case rel => exact ⟨_, ((t366 != t312)), zG82, H', ⟨by have := HJ19.out; have := HJ66.out; first | omega | exact Nat.le_refl _⟩, ⟨by (with_reducible repeat (first | apply zk | apply zl | apply zn)); exact zx HO_314000.out (fun _ hk => ⟨hk.1.1, hk.2⟩)⟩, ⟨by (with_reducible repeat (first | apply zk | apply zl | apply zn)); exact zx HO_330000.out (fun _ hk => ⟨hk.1.1, hk.2⟩)⟩, ⟨by (with_reducible repeat (first | apply zk | apply zl | apply zn)); exact zx HO363.out (fun _ hk => ⟨hk.1.1.2, hk.1.2⟩)⟩, ⟨by (with_reducible repeat (first | refine zh ?_ _ | refine zi ?_ | refine zg ?_ _)); exact BK313.out⟩, ⟨by (with_reducible repeat (first | refine zh ?_ _ | refine zi ?_ | refine zg ?_ _)); exact BK329.out⟩, ⟨by (with_reducible repeat (first | refine zh ?_ _ | refine zi ?_ | refine zg ?_ _)); exact BK367.out⟩, ⟨by repeat (first | (with_reducible first | exact HB.out | apply zd | apply zb | apply zc | refine zf ?_ GE313.out | refine zf ?_ GE329.out | refine zf ?_ GE367.out) | exact HB.out)⟩⟩
                ·replace c123 := Bool.eq_false_iff.mpr c123
                 subst c123
                 have H1 : (laws_FnExactSourceOf.j2 kj66 t349 true t350 t326 t327) = some r := by rw [if_neg (show ¬ (false = true) by decide)] at H; exact H
                 clear H
                 have H := H1
                 clear H1
                 have H' := za H
                 clear H
                 have hnb130 := NB367_313.out
                 have hnc130 := NB313_367.out
                 have hnb131 := NB367_329.out
                 have hnc131 := NB329_367.out
                 have hcz132_0 : w117.cell? ⟨gb367, 0, none⟩ = some (.slice none 0 0) := (zm BK367.out 0).trans rfl
                 have hcz132_1 : w117.cell? ⟨gb367, 1, none⟩ = some (.int .i64 0) := (zm BK367.out 1).trans rfl
                 have hcz132_2 : w117.cell? ⟨gb367, 2, none⟩ = some (.int .i64 0) := (zm BK367.out 2).trans rfl
                 have hfz132_0 := zj BK367.out 0
                 have hfz132_1 := zj BK367.out 1
                 have hfz132_2 := zj BK367.out 2
                 have hnb133 := NB313_329.out
                 have hnc133 := NB329_313.out
                 have hcz134_0 : w117.cell? ⟨gb313, 0, none⟩ = some (.slice Ao31 t307.length co31) := (zm BK313.out 0).trans rfl
                 have hcz134_1 : w117.cell? ⟨gb313, 1, none⟩ = some (.int .i64 t310) := (zm BK313.out 1).trans rfl
                 have hcz134_2 : w117.cell? ⟨gb313, 2, none⟩ = some (.int .i64 t311) := (zm BK313.out 2).trans rfl
                 have hfz134_0 := zj BK313.out 0
                 have hfz134_1 := zj BK313.out 1
                 have hfz134_2 := zj BK313.out 2
                 go_wp2_with (first | ((with_reducible refine gate_callee (f := 12) rfl ?_); refine goesL_ (some 125) rfl rfl Try.func12 zG83 rfl #[.agg #[.slice Ao118 t361.length co118, .int .i64 t364, .int .i64 t365], .agg #[.slice Ao31 t307.length co31, .int .i64 t310, .int .i64 t311]] rfl zG67 ?_; (with_reducible refine (laws_eqSourcing.calls kj66 _ _ t361 t364 t365 _ _ t307 t310 t311 false _ ?side1 ?side2 ?side3 ?side4 A122.out).mono ?_); (case side1 => refine (Kd.R_reads' (e := 3) (base := w.heap.size) (ok := fun k_ => (((True ∧ some k_ ≠ (.slice Ao31 t307.length co31 : Value).ownBlock) ∧ some k_ ≠ (.slice Ao41 t323.length co41 : Value).ownBlock) ∧ some k_ ≠ (.slice Ao115 t358.length co115 : Value).ownBlock)) (n := t361.length) (c := co118) ?_).2.2; exact (by (with_reducible repeat (first | apply zk | apply zl | apply zn)); exact (zx (zv (p := ⟨gb367, 2, none⟩) (zv (p := ⟨gb367, 1, none⟩) (zv (p := ⟨gb367, 0, none⟩) (zac HO363.out BK367.out (by decide)) (fun _ hk => hk.2) (.slice Ao118 t361.length co118)) (fun _ hk => hk.2) (.int .i64 t364)) (fun _ hk => hk.2) (.int .i64 t365)) (fun _ h_ => h_.1)))); (case side2 => exact (Kd.R_reads' HO363.out).2.1); (case side3 => refine (Kd.R_reads' (e := 3) (base := w.heap.size) (ok := fun k_ => ((some k_ ≠ (.slice Ao41 t323.length co41 : Value).ownBlock ∧ some k_ ≠ (.slice Ao115 t358.length co115 : Value).ownBlock) ∧ some k_ ≠ (.slice Ao118 t361.length co118 : Value).ownBlock)) (n := t307.length) (c := co31) ?_).2.2; exact (by (with_reducible repeat (first | apply zk | apply zl | apply zn)); exact (zx (zv (p := ⟨gb367, 2, none⟩) (zv (p := ⟨gb367, 1, none⟩) (zv (p := ⟨gb367, 0, none⟩) (zac HO_314000.out BK367.out (by decide)) (fun _ hk => hk.2) (.slice Ao118 t361.length co118)) (fun _ hk => hk.2) (.int .i64 t364)) (fun _ hk => hk.2) (.int .i64 t365)) (fun _ h_ => h_.1)))); (case side4 => exact (Kd.R_reads' HO_314000.out).2.1); rintro e w135 ⟨rfl, hb⟩; refine ⟨_, rfl, ?_⟩; have n0_ := za (zp (by (with_reducible repeat (first | apply zk | apply zl | apply zn)); exact (zx (zv (p := ⟨gb367, 2, none⟩) (zv (p := ⟨gb367, 1, none⟩) (zv (p := ⟨gb367, 0, none⟩) (zac HO_314000.out BK367.out (by decide)) (fun _ hk => hk.2) (.slice Ao118 t361.length co118)) (fun _ hk => hk.2) (.int .i64 t364)) (fun _ hk => hk.2) (.int .i64 t365)) (fun _ h_ => h_.1))) hb); have n1_ := za (zp (by (with_reducible repeat (first | apply zk | apply zl | apply zn)); exact (zx (zv (p := ⟨gb367, 2, none⟩) (zv (p := ⟨gb367, 1, none⟩) (zv (p := ⟨gb367, 0, none⟩) (zac HO_330000.out BK367.out (by decide)) (fun _ hk => hk.2) (.slice Ao118 t361.length co118)) (fun _ hk => hk.2) (.int .i64 t364)) (fun _ hk => hk.2) (.int .i64 t365)) (fun _ h_ => h_.1))) hb); have n2_ := za (zae (by (with_reducible repeat (first | apply zz | apply zaa | apply zab)); exact (zau (zam (p := ⟨gb367, 2, none⟩) (zam (p := ⟨gb367, 1, none⟩) (zam (p := ⟨gb367, 0, none⟩) (zbf HO354.out BK367.out (by decide)) (fun _ hk => hk.2) (.slice Ao118 t361.length co118)) (fun _ hk => hk.2) (.int .i64 t364)) (fun _ hk => hk.2) (.int .i64 t365)) (fun _ h_ => h_.1))) hb); have n3_ := za (zp (by (with_reducible repeat (first | apply zk | apply zl | apply zn)); exact (zx (zv (p := ⟨gb367, 2, none⟩) (zv (p := ⟨gb367, 1, none⟩) (zv (p := ⟨gb367, 0, none⟩) (zac HO357.out BK367.out (by decide)) (fun _ hk => hk.2) (.slice Ao118 t361.length co118)) (fun _ hk => hk.2) (.int .i64 t364)) (fun _ hk => hk.2) (.int .i64 t365)) (fun _ h_ => h_.1))) hb); have n4_ := za (zp (by (with_reducible repeat (first | apply zk | apply zl | apply zn)); exact (zx (zv (p := ⟨gb367, 2, none⟩) (zv (p := ⟨gb367, 1, none⟩) (zv (p := ⟨gb367, 0, none⟩) (zac HO360.out BK367.out (by decide)) (fun _ hk => hk.2) (.slice Ao118 t361.length co118)) (fun _ hk => hk.2) (.int .i64 t364)) (fun _ hk => hk.2) (.int .i64 t365)) (fun _ h_ => h_.1))) hb); have n5_ := za (zp (by (with_reducible repeat (first | apply zk | apply zl | apply zn)); exact (zx (zv (p := ⟨gb367, 2, none⟩) (zv (p := ⟨gb367, 1, none⟩) (zv (p := ⟨gb367, 0, none⟩) (zac HO363.out BK367.out (by decide)) (fun _ hk => hk.2) (.slice Ao118 t361.length co118)) (fun _ hk => hk.2) (.int .i64 t364)) (fun _ hk => hk.2) (.int .i64 t365)) (fun _ h_ => h_.1))) hb); have n6_ := za (zr (g := gb313) (o := .cells #[.slice Ao31 t307.length co31, .int .i64 t310, .int .i64 t311] 28 (0, 0)) (by (with_reducible repeat (first | refine zh ?_ _ | refine zi ?_ | refine zg ?_ _)); refine zag ?_ NB313_367.out _; (with_reducible repeat (first | refine zh ?_ _ | refine zi ?_ | refine zg ?_ _)); refine zag ?_ NB313_367.out _; (with_reducible repeat (first | refine zh ?_ _ | refine zi ?_ | refine zg ?_ _)); refine zag ?_ NB313_367.out _; (with_reducible repeat (first | refine zh ?_ _ | refine zi ?_ | refine zg ?_ _)); exact BK313.out) hb); have n7_ := za (zr (g := gb329) (o := .cells #[.slice Ao41 t323.length co41, .int .i64 t326, .int .i64 t327] 28 (0, 0)) (by (with_reducible repeat (first | refine zh ?_ _ | refine zi ?_ | refine zg ?_ _)); refine zag ?_ NB329_367.out _; (with_reducible repeat (first | refine zh ?_ _ | refine zi ?_ | refine zg ?_ _)); refine zag ?_ NB329_367.out _; (with_reducible repeat (first | refine zh ?_ _ | refine zi ?_ | refine zg ?_ _)); refine zag ?_ NB329_367.out _; (with_reducible repeat (first | refine zh ?_ _ | refine zi ?_ | refine zg ?_ _)); exact BK329.out) hb); have n8_ := za (zr (g := gb367) (o := .cells #[.slice Ao118 t361.length co118, .int .i64 t364, .int .i64 t365] 28 (0, 0)) (by (with_reducible repeat (first | refine zh ?_ _ | refine zi ?_ | refine zg ?_ _)); refine zy (cs := #[.slice Ao118 t361.length co118, .int .i64 t364, .int .i64 0]) ?_ 2 _ rfl; (with_reducible repeat (first | refine zh ?_ _ | refine zi ?_ | refine zg ?_ _)); refine zy (cs := #[.slice Ao118 t361.length co118, .int .i64 0, .int .i64 0]) ?_ 1 _ rfl; (with_reducible repeat (first | refine zh ?_ _ | refine zi ?_ | refine zg ?_ _)); refine zy (cs := #[.slice none 0 0, .int .i64 0, .int .i64 0]) ?_ 0 _ rfl; (with_reducible repeat (first | refine zh ?_ _ | refine zi ?_ | refine zg ?_ _)); exact BK367.out) hb); have n9_ := za (zq (by repeat (first | (with_reducible first | exact HB.out | apply zd | apply zb | apply zc | refine zf ?_ GE313.out | refine zf ?_ GE329.out | refine zf ?_ GE367.out) | exact HB.out)) hb); clear HO_314000; clear HO_330000; clear HO354; clear HO357; clear HO360; clear HO363; clear BK313; clear BK329; clear BK367; clear HB; have HO_314000 := n0_; have HO_330000 := n1_; have HO354 := n2_; have HO357 := n3_; have HO360 := n4_; have HO363 := n5_; have BK313 := n6_; have BK329 := n7_; have BK367 := n8_; have HB := n9_; clear n0_ n1_ n2_ n3_ n4_ n5_ n6_ n7_ n8_ n9_; (try clear hb); (try clear hb2); (try clear hk); (try clear hi)))
                 go_meet
                 case rel => exact ⟨_, (true), zG82, H', ⟨by have := HJ19.out; have := HJ66.out; first | omega | exact Nat.le_refl _⟩, ⟨by (with_reducible repeat (first | apply zk | apply zl | apply zn)); exact zx HO_314000.out (fun _ hk => ⟨hk.1.1, hk.2⟩)⟩, ⟨by (with_reducible repeat (first | apply zk | apply zl | apply zn)); exact zx HO_330000.out (fun _ hk => ⟨hk.1.1, hk.2⟩)⟩, ⟨by (with_reducible repeat (first | apply zk | apply zl | apply zn)); exact zx HO363.out (fun _ hk => ⟨hk.1.1.2, hk.1.2⟩)⟩, ⟨by (with_reducible repeat (first | refine zh ?_ _ | refine zi ?_ | refine zg ?_ _)); exact BK313.out⟩, ⟨by (with_reducible repeat (first | refine zh ?_ _ | refine zi ?_ | refine zg ?_ _)); exact BK329.out⟩, ⟨by (with_reducible repeat (first | refine zh ?_ _ | refine zi ?_ | refine zg ?_ _)); exact BK367.out⟩, ⟨by repeat (first | (with_reducible first | exact HB.out | apply zd | apply zb | apply zc | refine zf ?_ GE313.out | refine zf ?_ GE329.out | refine zf ?_ GE367.out) | exact HB.out)⟩⟩
               case rest =>
                clear HC104
                try clear c1
                try clear c2
                try clear p2
                try clear c3
                try clear c4
                try clear c4b0
                try clear c4b1
                try clear c5
                try clear c6
                try clear c6b0
                try clear c7
                try clear c8
                try clear c9
                try clear c9b0
                try clear c10
                try clear c11
                try clear c12
                try clear c13
                try clear c14
                try clear c15
                try clear c16
                try clear c17
                try clear c18
                try clear c19
                try clear c20
                try clear c42
                try clear c45
                try clear c46
                try clear c50
                try clear c54
                try clear c57
                try clear c60
                try clear c63
                try clear c79
                try clear c79b0
                try clear c81
                try clear c82
                try clear c86
                try clear c90
                try clear c93
                try clear c93b0
                try clear c94
                try clear c99
                try clear c99b0
                try clear c99b1
                try clear c105
                try clear c119
                try clear c120
                try clear c123
                try clear c124
                try clear c125
                try clear c127
                try clear c130
                try clear c131
                try clear c133
                try clear hcz106_0
                try clear hcz106_1
                try clear hcz106_2
                try clear hcz108_0
                try clear hcz108_1
                try clear hcz108_2
                try clear hcz121_0
                try clear hcz121_1
                try clear hcz121_2
                try clear hcz126_0
                try clear hcz126_1
                try clear hcz126_2
                try clear hcz128_0
                try clear hcz128_1
                try clear hcz128_2
                try clear hcz132_0
                try clear hcz132_1
                try clear hcz132_2
                try clear hcz134_0
                try clear hcz134_1
                try clear hcz134_2
                try clear hcz32_0
                try clear hcz32_1
                try clear hcz32_2
                try clear hcz43_0
                try clear hcz43_1
                try clear hcz43_2
                try clear hcz47_0
                try clear hcz47_1
                try clear hcz47_2
                try clear hcz48_0
                try clear hcz48_1
                try clear hcz48_2
                try clear hcz51_0
                try clear hcz51_1
                try clear hcz51_2
                try clear hcz52_0
                try clear hcz52_1
                try clear hcz52_2
                try clear hcz83_0
                try clear hcz83_1
                try clear hcz83_2
                try clear hcz84_0
                try clear hcz84_1
                try clear hcz84_2
                try clear hcz87_0
                try clear hcz87_1
                try clear hcz87_2
                try clear hcz88_0
                try clear hcz88_1
                try clear hcz88_2
                try clear hcz95_0
                try clear hcz95_1
                try clear hcz95_2
                try clear hcz97_0
                try clear hcz97_1
                try clear hcz97_2
                try clear hfz106_0
                try clear hfz106_1
                try clear hfz106_2
                try clear hfz108_0
                try clear hfz108_1
                try clear hfz108_2
                try clear hfz121_0
                try clear hfz121_1
                try clear hfz121_2
                try clear hfz126_0
                try clear hfz126_1
                try clear hfz126_2
                try clear hfz128_0
                try clear hfz128_1
                try clear hfz128_2
                try clear hfz132_0
                try clear hfz132_1
                try clear hfz132_2
                try clear hfz134_0
                try clear hfz134_1
                try clear hfz134_2
                try clear hfz32_0
                try clear hfz32_1
                try clear hfz32_2
                try clear hfz43_0
                try clear hfz43_1
                try clear hfz43_2
                try clear hfz47_0
                try clear hfz47_1
                try clear hfz47_2
                try clear hfz48_0
                try clear hfz48_1
                try clear hfz48_2
                try clear hfz51_0
                try clear hfz51_1
                try clear hfz51_2
                try clear hfz52_0
                try clear hfz52_1
                try clear hfz52_2
                try clear hfz83_0
                try clear hfz83_1
                try clear hfz83_2
                try clear hfz84_0
                try clear hfz84_1
                try clear hfz84_2
                try clear hfz87_0
                try clear hfz87_1
                try clear hfz87_2
                try clear hfz88_0
                try clear hfz88_1
                try clear hfz88_2
                try clear hfz95_0
                try clear hfz95_1
                try clear hfz95_2
                try clear hfz97_0
                try clear hfz97_1
                try clear hfz97_2
                try clear p2
                obtain ⟨kq, x131_103, rfl, HA, HJ103, HO_314000, HO_330000, HO_368000, BK313, BK329, BK367, HB⟩ := hcut
                have hl330000_103 := (Kd.R_reads' HO_330000.out).1
                rw [hl330000_103] at HO_330000
                (try simp only [hl330000_103])
                (try simp only [hl330000_103] at BK313)
                (try simp only [hl330000_103] at BK329)
                (try simp only [hl330000_103] at BK367)
                (try simp only [hl330000_103] at HO_314000)
                (try simp only [hl330000_103] at HO_368000)
                cases kq with
                | zero => exact absurd HA.out (by simp [laws_FnExactSourceOf.j2])
                | succ kj103 =>
                 have H := HA.out
                 clear HA
                 simp only [laws_FnExactSourceOf.j2] at H
                 by_cases c136 : x131_103 = true
                 ·subst c136
                  have H1 : (some false) = some r := by rw [if_pos rfl] at H; exact H
                  clear H
                  have H := H1
                  clear H1
                  obtain rfl := Option.some.inj H
                  go_wp2
                  go_ret
                  exact ⟨by first | rfl | (simp [errW_none, errW_some] <;> rfl) | (simp [*, errW_none, errW_some] <;> rfl), by repeat (first | (with_reducible first | exact HB.out | apply zd | apply zb | apply zc | refine zf ?_ GE313.out | refine zf ?_ GE329.out | refine zf ?_ GE367.out) | exact HB.out)⟩
                 ·replace c136 := Bool.eq_false_iff.mpr c136
                  subst c136
                  have H1 : ((laws_heldSourcing.f kj103 t350 t326 t327 1).bind fun t369 => (if t369 < 0 then (some false) else (if t369 = t349 then (some true) else (some false)))) = some r := by rw [if_neg (show ¬ (false = true) by decide)] at H; exact H
                  clear H
                  have H := H1
                  clear H1
                  replace H := Option.bind_eq_some_iff.mp H
                  obtain ⟨t369, A1370, H⟩ := H
                  replace H : (if t369 < 0 then (some false) else (if t369 = t349 then (some true) else (some false))) = some r := H
                  have A137 := za A1370
                  clear A1370
                  by_cases c138 : t369 < 0
                  ·rw [if_pos c138] at H
                   have c138b0 : decide (t369 < 0) = true := decide_eq_true c138
                   clear c138
                   obtain rfl := Option.some.inj H
                   have hnb139 := NB329_313.out
                   have hnc139 := NB313_329.out
                   have hnb140 := NB329_367.out
                   have hnc140 := NB367_329.out
                   have hcz141_0 : wc.cell? ⟨gb329, 0, none⟩ = some (.slice Ao41 t350.length co41) := (zm BK329.out 0).trans rfl
                   have hcz141_1 : wc.cell? ⟨gb329, 1, none⟩ = some (.int .i64 t326) := (zm BK329.out 1).trans rfl
                   have hcz141_2 : wc.cell? ⟨gb329, 2, none⟩ = some (.int .i64 t327) := (zm BK329.out 2).trans rfl
                   have hfz141_0 := zj BK329.out 0
                   have hfz141_1 := zj BK329.out 1
                   have hfz141_2 := zj BK329.out 2
                   go_wp2_with (first | ((with_reducible refine gate_callee (f := 20) rfl ?_); refine goesL_ (some 134) rfl rfl Try.func20 zG83 rfl #[.agg #[.slice Ao41 t350.length co41, .int .i64 t326, .int .i64 t327], .int .i64 1] rfl zG67 ?_; (with_reducible refine (laws_heldSourcing.calls kj103 _ _ t350 t326 t327 1 t369 _ ?side1 ?side2 A137.out).mono ?_); (case side1 => repeat (first | exact (Kd.R_reads' HO_330000.out).2.2 | (with_reducible refine zs ?_ _) | (with_reducible refine zt ?_ _) | (with_reducible refine zu ?_))); (case side2 => exact (Kd.R_reads' HO_330000.out).2.1); rintro e w142 ⟨rfl, hb⟩; refine ⟨_, rfl, ?_⟩; have n0_ := za (zp zG77 hb); have n1_ := za (zp zG78 hb); have n2_ := za (zp (by (with_reducible repeat (first | apply zk | apply zl | apply zn)); exact HO_368000.out) hb); have n3_ := za (zr (g := gb313) (o := .cells #[.slice Ao31 t307.length co31, .int .i64 t310, .int .i64 t311] 28 (0, 0)) zG74 hb); have n4_ := za (zr (g := gb329) (o := .cells #[.slice Ao41 t350.length co41, .int .i64 t326, .int .i64 t327] 28 (0, 0)) zG75 hb); have n5_ := za (zr (g := gb367) (o := .cells #[.slice Ao118 t361.length co118, .int .i64 t364, .int .i64 t365] 28 (0, 0)) (by (with_reducible repeat (first | refine zh ?_ _ | refine zi ?_ | refine zg ?_ _)); exact BK367.out) hb); have n6_ := za (zq (by repeat (first | (with_reducible first | exact HB.out | apply zd | apply zb | apply zc | refine zf ?_ GE313.out | refine zf ?_ GE329.out | refine zf ?_ GE367.out) | exact HB.out)) hb); clear HO_314000; clear HO_330000; clear HO_368000; clear BK313; clear BK329; clear BK367; clear HB; have HO_314000 := n0_; have HO_330000 := n1_; have HO_368000 := n2_; have BK313 := n3_; have BK329 := n4_; have BK367 := n5_; have HB := n6_; clear n0_ n1_ n2_ n3_ n4_ n5_ n6_; (try clear hb); (try clear hb2); (try clear hk); (try clear hi)))
                   go_ret
                   exact ⟨by first | rfl | (simp [errW_none, errW_some] <;> rfl) | (simp [*, errW_none, errW_some] <;> rfl), by repeat (first | (with_reducible first | exact HB.out | apply zd | apply zb | apply zc | refine zf ?_ GE313.out | refine zf ?_ GE329.out | refine zf ?_ GE367.out) | exact HB.out)⟩
                  ·rw [if_neg c138] at H
                   have c138b0 : decide (t369 < 0) = false := decide_eq_false c138
                   clear c138
                   by_cases c143 : t369 = t349
                   ·rw [if_pos c143] at H
                    have c143b0 : (t369 == t349) = true := beq_iff_eq.mpr c143
                    have c143b1 : (t369 != t349) = false := bne_eq_false_iff_eq.mpr c143
                    clear c143
                    obtain rfl := Option.some.inj H
                    have hnb144 := NB329_313.out
                    have hnc144 := NB313_329.out
                    have hnb145 := NB329_367.out
                    have hnc145 := NB367_329.out
                    have hcz146_0 : wc.cell? ⟨gb329, 0, none⟩ = some (.slice Ao41 t350.length co41) := (zm BK329.out 0).trans rfl
                    have hcz146_1 : wc.cell? ⟨gb329, 1, none⟩ = some (.int .i64 t326) := (zm BK329.out 1).trans rfl
                    have hcz146_2 : wc.cell? ⟨gb329, 2, none⟩ = some (.int .i64 t327) := (zm BK329.out 2).trans rfl
                    have hfz146_0 := zj BK329.out 0
                    have hfz146_1 := zj BK329.out 1
                    have hfz146_2 := zj BK329.out 2
                    go_wp2_with (first | ((with_reducible refine gate_callee (f := 20) rfl ?_); refine goesL_ (some 134) rfl rfl Try.func20 zG83 rfl #[.agg #[.slice Ao41 t350.length co41, .int .i64 t326, .int .i64 t327], .int .i64 1] rfl zG67 ?_; (with_reducible refine (laws_heldSourcing.calls kj103 _ _ t350 t326 t327 1 t369 _ ?side1 ?side2 A137.out).mono ?_); (case side1 => repeat (first | exact (Kd.R_reads' HO_330000.out).2.2 | (with_reducible refine zs ?_ _) | (with_reducible refine zt ?_ _) | (with_reducible refine zu ?_))); (case side2 => exact (Kd.R_reads' HO_330000.out).2.1); rintro e w147 ⟨rfl, hb⟩; refine ⟨_, rfl, ?_⟩; have n0_ := za (zp zG77 hb); have n1_ := za (zp zG78 hb); have n2_ := za (zp (by (with_reducible repeat (first | apply zk | apply zl | apply zn)); exact HO_368000.out) hb); have n3_ := za (zr (g := gb313) (o := .cells #[.slice Ao31 t307.length co31, .int .i64 t310, .int .i64 t311] 28 (0, 0)) zG74 hb); have n4_ := za (zr (g := gb329) (o := .cells #[.slice Ao41 t350.length co41, .int .i64 t326, .int .i64 t327] 28 (0, 0)) zG75 hb); have n5_ := za (zr (g := gb367) (o := .cells #[.slice Ao118 t361.length co118, .int .i64 t364, .int .i64 t365] 28 (0, 0)) (by (with_reducible repeat (first | refine zh ?_ _ | refine zi ?_ | refine zg ?_ _)); exact BK367.out) hb); have n6_ := za (zq (by repeat (first | (with_reducible first | exact HB.out | apply zd | apply zb | apply zc | refine zf ?_ GE313.out | refine zf ?_ GE329.out | refine zf ?_ GE367.out) | exact HB.out)) hb); clear HO_314000; clear HO_330000; clear HO_368000; clear BK313; clear BK329; clear BK367; clear HB; have HO_314000 := n0_; have HO_330000 := n1_; have HO_368000 := n2_; have BK313 := n3_; have BK329 := n4_; have BK367 := n5_; have HB := n6_; clear n0_ n1_ n2_ n3_ n4_ n5_ n6_; (try clear hb); (try clear hb2); (try clear hk); (try clear hi)))
                    go_ret
                    exact ⟨by first | rfl | (simp [errW_none, errW_some] <;> rfl) | (simp [*, errW_none, errW_some] <;> rfl), by repeat (first | (with_reducible first | exact HB.out | apply zd | apply zb | apply zc | refine zf ?_ GE313.out | refine zf ?_ GE329.out | refine zf ?_ GE367.out) | exact HB.out)⟩
                   ·rw [if_neg c143] at H
                    have c143b0 : (t369 == t349) = false := beq_eq_false_iff_ne.mpr c143
                    have c143b1 : (t369 != t349) = true := bne_iff_ne.mpr c143
                    obtain rfl := Option.some.inj H
                    have hnb148 := NB329_313.out
                    have hnc148 := NB313_329.out
                    have hnb149 := NB329_367.out
                    have hnc149 := NB367_329.out
                    have hcz150_0 : wc.cell? ⟨gb329, 0, none⟩ = some (.slice Ao41 t350.length co41) := (zm BK329.out 0).trans rfl
                    have hcz150_1 : wc.cell? ⟨gb329, 1, none⟩ = some (.int .i64 t326) := (zm BK329.out 1).trans rfl
                    have hcz150_2 : wc.cell? ⟨gb329, 2, none⟩ = some (.int .i64 t327) := (zm BK329.out 2).trans rfl
                    have hfz150_0 := zj BK329.out 0
                    have hfz150_1 := zj BK329.out 1
                    have hfz150_2 := zj BK329.out 2
                    go_wp2_with (first | ((with_reducible refine gate_callee (f := 20) rfl ?_); refine goesL_ (some 134) rfl rfl Try.func20 zG83 rfl #[.agg #[.slice Ao41 t350.length co41, .int .i64 t326, .int .i64 t327], .int .i64 1] rfl zG67 ?_; (with_reducible refine (laws_heldSourcing.calls kj103 _ _ t350 t326 t327 1 t369 _ ?side1 ?side2 A137.out).mono ?_); (case side1 => repeat (first | exact (Kd.R_reads' HO_330000.out).2.2 | (with_reducible refine zs ?_ _) | (with_reducible refine zt ?_ _) | (with_reducible refine zu ?_))); (case side2 => exact (Kd.R_reads' HO_330000.out).2.1); rintro e w151 ⟨rfl, hb⟩; refine ⟨_, rfl, ?_⟩; have n0_ := za (zp zG77 hb); have n1_ := za (zp zG78 hb); have n2_ := za (zp (by (with_reducible repeat (first | apply zk | apply zl | apply zn)); exact HO_368000.out) hb); have n3_ := za (zr (g := gb313) (o := .cells #[.slice Ao31 t307.length co31, .int .i64 t310, .int .i64 t311] 28 (0, 0)) zG74 hb); have n4_ := za (zr (g := gb329) (o := .cells #[.slice Ao41 t350.length co41, .int .i64 t326, .int .i64 t327] 28 (0, 0)) zG75 hb); have n5_ := za (zr (g := gb367) (o := .cells #[.slice Ao118 t361.length co118, .int .i64 t364, .int .i64 t365] 28 (0, 0)) (by (with_reducible repeat (first | refine zh ?_ _ | refine zi ?_ | refine zg ?_ _)); exact BK367.out) hb); have n6_ := za (zq (by repeat (first | (with_reducible first | exact HB.out | apply zd | apply zb | apply zc | refine zf ?_ GE313.out | refine zf ?_ GE329.out | refine zf ?_ GE367.out) | exact HB.out)) hb); clear HO_314000; clear HO_330000; clear HO_368000; clear BK313; clear BK329; clear BK367; clear HB; have HO_314000 := n0_; have HO_330000 := n1_; have HO_368000 := n2_; have BK313 := n3_; have BK329 := n4_; have BK367 := n5_; have HB := n6_; clear n0_ n1_ n2_ n3_ n4_ n5_ n6_; (try clear hb); (try clear hb2); (try clear hk); (try clear hi)))
                    go_ret
                    exact ⟨by first | rfl | (simp [errW_none, errW_some] <;> rfl) | (simp [*, errW_none, errW_some] <;> rfl), by repeat (first | (with_reducible first | exact HB.out | apply zd | apply zb | apply zc | refine zf ?_ GE313.out | refine zf ?_ GE329.out | refine zf ?_ GE367.out) | exact HB.out)⟩
              ·rw [if_neg c99] at H
               have c99b0 : (t351 == t349) = false := beq_eq_false_iff_ne.mpr c99
               have c99b1 : (t351 != t349) = true := bne_iff_ne.mpr c99
               obtain rfl := Option.some.inj H
               have hnb152 := NB329_313.out
               have hnc152 := NB313_329.out
               have hcz153_0 : wc.cell? ⟨gb329, 0, none⟩ = some (.slice Ao41 t323.length co41) := (zm BK329.out 0).trans rfl
               have hcz153_1 : wc.cell? ⟨gb329, 1, none⟩ = some (.int .i64 t326) := (zm BK329.out 1).trans rfl
               have hcz153_2 : wc.cell? ⟨gb329, 2, none⟩ = some (.int .i64 t327) := (zm BK329.out 2).trans rfl
               have hfz153_0 := zj BK329.out 0
               have hfz153_1 := zj BK329.out 1
               have hfz153_2 := zj BK329.out 2
               go_wp2_with (first | ((with_reducible refine gate_callee (f := 19) rfl ?_); refine goesL_ (some 104) rfl rfl Try.func19 zG83 rfl #[.agg #[.slice Ao41 t323.length co41, .int .i64 t326, .int .i64 t327], .int .i64 1] rfl zG67 ?_; (with_reducible refine (laws_markSourcing.calls kj66 (fun k_ => some k_ = (.slice Ao41 t323.length co41 : Value).ownBlock) (.slice Ao41 t323.length co41) t323 t326 t327 1 t349 t350 w _ ?side1 ?side2 A91.out).mono ?_); (case side1 => repeat (first | (with_reducible first | exact HB.out | apply zd | apply zb | apply zc | refine zf ?_ GE313.out | refine zf ?_ GE329.out) | exact HB.out)); (case side2 => exact zat rfl HO_330000.out); rintro e w154 ⟨rfl, hy0, hb, hkp⟩; refine ⟨_, rfl, ?_⟩; have n0_ := za (zx (ok' := fun k_ => some k_ ≠ (.slice Ao41 t323.length co41 : Value).ownBlock) (zan (HO_314000.out) hkp (fun k_ hk_ hs_ => (hk_) hs_)) (fun k_ hk_ => hk_.1)); have n1_ := za (zav rfl hy0 (fun k_ e_ => HO_330000.out.1 k_ e_)); have n2_ := za (zax zG74 hkp (fun hs_ => (fun e_ => (zas HO_330000.out BK313.out (by decide)) e_) hs_)); have n3_ := za (zax zG75 hkp (fun hs_ => (fun e_ => (zas HO_330000.out BK329.out (by decide)) e_) hs_)); have n4_ := za (hb); clear HO_314000; clear HO_330000; clear BK313; clear BK329; clear HB; have HO_314000 := n0_; have HO_330000 := n1_; have BK313 := n2_; have BK329 := n3_; have HB := n4_; clear n0_ n1_ n2_ n3_ n4_; (try clear hb); (try clear hkp); (try clear hy0); have hcz155_0 : w154.cell? ⟨gb329, 0, none⟩ = some (.slice Ao41 t323.length co41) := (zm BK329.out 0).trans rfl; have hcz155_1 : w154.cell? ⟨gb329, 1, none⟩ = some (.int .i64 t326) := (zm BK329.out 1).trans rfl; have hcz155_2 : w154.cell? ⟨gb329, 2, none⟩ = some (.int .i64 t327) := (zm BK329.out 2).trans rfl; have hfz155_0 := zj BK329.out 0; have hfz155_1 := zj BK329.out 1; have hfz155_2 := zj BK329.out 2) | ((with_reducible refine gate_callee (f := 20) rfl ?_); refine goesL_ (some 107) rfl rfl Try.func20 zG83 rfl #[.agg #[.slice Ao41 t350.length co41, .int .i64 t326, .int .i64 t327], .int .i64 1] rfl (by (try simp only [List.map_toArray, List.map_cons, List.map_nil]); first | done | (rw [show t350.length = t323.length from (Kd.R_reads' HO_330000.out).1.symm] <;> rfl) | rfl | (simp only [List.length_drop, List.length_take]; rfl)) ?_; (with_reducible refine (laws_heldSourcing.calls kj66 _ _ t350 t326 t327 1 t351 _ ?side1 ?side2 A92.out).mono ?_); (case side1 => repeat (first | exact (Kd.R_reads' HO_330000.out).2.2 | (with_reducible refine zs ?_ _) | (with_reducible refine zt ?_ _) | (with_reducible refine zu ?_))); (case side2 => rw [show t350.length = t323.length from (Kd.R_reads' HO_330000.out).1.symm]; exact (Kd.R_reads' HO_330000.out).2.1); rintro e w156 ⟨rfl, hb⟩; refine ⟨_, rfl, ?_⟩; have n0_ := za (zp zG77 hb); have n1_ := za (zp zG78 hb); have n2_ := za (zr (g := gb313) (o := .cells #[.slice Ao31 t307.length co31, .int .i64 t310, .int .i64 t311] 28 (0, 0)) zG74 hb); have n3_ := za (zr (g := gb329) (o := .cells #[.slice Ao41 t323.length co41, .int .i64 t326, .int .i64 t327] 28 (0, 0)) zG75 hb); have n4_ := za (zq zG66 hb); clear HO_314000; clear HO_330000; clear BK313; clear BK329; clear HB; have HO_314000 := n0_; have HO_330000 := n1_; have BK313 := n2_; have BK329 := n3_; have HB := n4_; clear n0_ n1_ n2_ n3_ n4_; (try clear hb); (try clear hb2); (try clear hk); (try clear hi)))
               go_ret
               exact ⟨by first | rfl | (simp [errW_none, errW_some] <;> rfl) | (simp [*, errW_none, errW_some] <;> rfl), by repeat (first | (with_reducible first | exact HB.out | apply zd | apply zb | apply zc | refine zf ?_ GE313.out | refine zf ?_ GE329.out) | exact HB.out)⟩
         ·replace c63 := Bool.eq_false_iff.mpr c63
          subst c63
          have H1 : (some false) = some r := by rw [if_neg (show ¬ (false = true) by decide)] at H; exact H
          clear H
          have H := H1
          clear H1
          obtain rfl := Option.some.inj H
          go_wp2_with (first | ((with_reducible refine gate_callee (f := 8) rfl ?_); refine goesL_ (some 67) rfl rfl Try.func8 zG83 rfl #[.slice A0 l0.length c0] rfl zG67 ?_; (with_reducible refine (laws_toSourceS.calls kj19 _ _ l0 t331 _ ?side1 ?side2 A55.out).mono ?_); (case side1 => repeat (first | exact (zw HR0.out HB.out) | (with_reducible refine zs ?_ _) | (with_reducible refine zt ?_ _) | (with_reducible refine zu ?_))); (case side2 => exact HC0.out); rintro e w157 ⟨v332, rfl, ho0, hb⟩; refine ⟨_, rfl, ?_⟩; have n0_ := za (zaq zG79 (Kd.S_base ho0) hb); have n1_ := za (zp zG80 hb); have n2_ := za (zp zG81 hb); have n3_ := za (zp zG77 hb); have n4_ := za (zp zG78 hb); have n5_ := za (zbe (zay (zay ho0 (Kd.S_lt zG79)) (zap zG80)) (zo zG66)); have n6_ := za (zr (g := gb313) (o := .cells #[.slice Ao31 t307.length co31, .int .i64 t310, .int .i64 t311] 28 (0, 0)) zG74 hb); have n7_ := za (zr (g := gb329) (o := .cells #[.slice Ao41 t323.length co41, .int .i64 t326, .int .i64 t327] 28 (0, 0)) zG75 hb); have n8_ := za (zq zG66 hb); clear HO_10; clear HO_11; clear HO_12; clear HO_314000; clear HO_330000; clear BK313; clear BK329; clear HB; have HO_10 := n0_; have HO_11 := n1_; have HO_12 := n2_; have HO_314000 := n3_; have HO_330000 := n4_; have HO333 := n5_; have BK313 := n6_; have BK329 := n7_; have HB := n8_; clear n0_ n1_ n2_ n3_ n4_ n5_ n6_ n7_ n8_; (try clear hb); (try clear hb2); (try clear hk); (try clear hi); (try clear ho0); obtain ⟨Ao158, co158, eo158⟩ := zbh HO333.out; subst eo158) | ((with_reducible refine gate_callee (f := 13) rfl ?_); refine goesL_ (some 68) rfl rfl Try.func13 zG83 rfl #[.slice Ao36 t314.length co36, .slice Ao158 t331.length co158] rfl zG67 ?_; (with_reducible refine (laws_eqSourceS.calls kj19 _ _ t314 _ _ t331 true _ ?side1 ?side2 ?side3 ?side4 A56.out).mono ?_); (case side1 => repeat (first | exact (zai HO_10.out).2.2 | (with_reducible refine zs ?_ _) | (with_reducible refine zt ?_ _) | (with_reducible refine zu ?_))); (case side2 => exact (zai HO_10.out).2.1); (case side3 => repeat (first | exact (zai HO333.out).2.2 | (with_reducible refine zs ?_ _) | (with_reducible refine zt ?_ _) | (with_reducible refine zu ?_))); (case side4 => exact (zai HO333.out).2.1); rintro e w159 ⟨rfl, hb⟩; refine ⟨_, rfl, ?_⟩; have n0_ := za (zae zG79 hb); have n1_ := za (zp zG80 hb); have n2_ := za (zp zG81 hb); have n3_ := za (zp zG77 hb); have n4_ := za (zp zG78 hb); have n5_ := za (zae (by (with_reducible repeat (first | apply zz | apply zaa | apply zab)); exact HO333.out) hb); have n6_ := za (zr (g := gb313) (o := .cells #[.slice Ao31 t307.length co31, .int .i64 t310, .int .i64 t311] 28 (0, 0)) zG74 hb); have n7_ := za (zr (g := gb329) (o := .cells #[.slice Ao41 t323.length co41, .int .i64 t326, .int .i64 t327] 28 (0, 0)) zG75 hb); have n8_ := za (zq zG66 hb); clear HO_10; clear HO_11; clear HO_12; clear HO_314000; clear HO_330000; clear HO333; clear BK313; clear BK329; clear HB; have HO_10 := n0_; have HO_11 := n1_; have HO_12 := n2_; have HO_314000 := n3_; have HO_330000 := n4_; have HO333 := n5_; have BK313 := n6_; have BK329 := n7_; have HB := n8_; clear n0_ n1_ n2_ n3_ n4_ n5_ n6_ n7_ n8_; (try clear hb); (try clear hb2); (try clear hk); (try clear hi)) | ((with_reducible refine gate_callee (f := 9) rfl ?_); refine goesL_ (some 72) rfl rfl Try.func9 zG83 rfl #[.slice A1 l1.length c1] rfl zG67 ?_; (with_reducible refine (laws_toStockedS.calls kj19 _ _ l1 t335 _ ?side1 ?side2 A58.out).mono ?_); (case side1 => repeat (first | exact (zw HR1.out HB.out) | (with_reducible refine zs ?_ _) | (with_reducible refine zt ?_ _) | (with_reducible refine zu ?_))); (case side2 => exact HC1.out); rintro e w160 ⟨v336, rfl, ho0, hb⟩; refine ⟨_, rfl, ?_⟩; have n0_ := za (zaq zG79 (zah ho0) hb); have n1_ := za (zak zG80 (zah ho0) hb); have n2_ := za (zp zG81 hb); have n3_ := za (zp zG77 hb); have n4_ := za (zp zG78 hb); have n5_ := za (zaq (by (with_reducible repeat (first | apply zz | apply zaa | apply zab)); exact HO333.out) (zah ho0) hb); have n6_ := za (zaj (zao ho0 (zap zG80)) (zo zG66)); have n7_ := za (zr (g := gb313) (o := .cells #[.slice Ao31 t307.length co31, .int .i64 t310, .int .i64 t311] 28 (0, 0)) zG74 hb); have n8_ := za (zr (g := gb329) (o := .cells #[.slice Ao41 t323.length co41, .int .i64 t326, .int .i64 t327] 28 (0, 0)) zG75 hb); have n9_ := za (zq zG66 hb); clear HO_10; clear HO_11; clear HO_12; clear HO_314000; clear HO_330000; clear HO333; clear BK313; clear BK329; clear HB; have HO_10 := n0_; have HO_11 := n1_; have HO_12 := n2_; have HO_314000 := n3_; have HO_330000 := n4_; have HO333 := n5_; have HO337 := n6_; have BK313 := n7_; have BK329 := n8_; have HB := n9_; clear n0_ n1_ n2_ n3_ n4_ n5_ n6_ n7_ n8_ n9_; (try clear hb); (try clear hb2); (try clear hk); (try clear hi); (try clear ho0); obtain ⟨Ao161, co161, eo161⟩ := zaf HO337.out; subst eo161) | ((with_reducible refine gate_callee (f := 14) rfl ?_); refine goesL_ (some 73) rfl rfl Try.func14 zG83 rfl #[.slice Ao37 t317.length co37, .slice Ao161 t335.length co161] rfl zG67 ?_; (with_reducible refine (laws_eqStockedS.calls kj19 _ _ t317 _ _ t335 true _ ?side1 ?side2 ?side3 ?side4 A59.out).mono ?_); (case side1 => repeat (first | exact (Kd.R_reads' HO_11.out).2.2 | (with_reducible refine zs ?_ _) | (with_reducible refine zt ?_ _) | (with_reducible refine zu ?_))); (case side2 => exact (Kd.R_reads' HO_11.out).2.1); (case side3 => repeat (first | exact (Kd.R_reads' HO337.out).2.2 | (with_reducible refine zs ?_ _) | (with_reducible refine zt ?_ _) | (with_reducible refine zu ?_))); (case side4 => exact (Kd.R_reads' HO337.out).2.1); rintro e w162 ⟨rfl, hb⟩; refine ⟨_, rfl, ?_⟩; have n0_ := za (zae zG79 hb); have n1_ := za (zp zG80 hb); have n2_ := za (zp zG81 hb); have n3_ := za (zp zG77 hb); have n4_ := za (zp zG78 hb); have n5_ := za (zae (by (with_reducible repeat (first | apply zz | apply zaa | apply zab)); exact HO333.out) hb); have n6_ := za (zp (by (with_reducible repeat (first | apply zk | apply zl | apply zn)); exact HO337.out) hb); have n7_ := za (zr (g := gb313) (o := .cells #[.slice Ao31 t307.length co31, .int .i64 t310, .int .i64 t311] 28 (0, 0)) zG74 hb); have n8_ := za (zr (g := gb329) (o := .cells #[.slice Ao41 t323.length co41, .int .i64 t326, .int .i64 t327] 28 (0, 0)) zG75 hb); have n9_ := za (zq zG66 hb); clear HO_10; clear HO_11; clear HO_12; clear HO_314000; clear HO_330000; clear HO333; clear HO337; clear BK313; clear BK329; clear HB; have HO_10 := n0_; have HO_11 := n1_; have HO_12 := n2_; have HO_314000 := n3_; have HO_330000 := n4_; have HO333 := n5_; have HO337 := n6_; have BK313 := n7_; have BK329 := n8_; have HB := n9_; clear n0_ n1_ n2_ n3_ n4_ n5_ n6_ n7_ n8_ n9_; (try clear hb); (try clear hb2); (try clear hk); (try clear hi)) | ((with_reducible refine gate_callee (f := 10) rfl ?_); refine goesL_ (some 77) rfl rfl Try.func10 zG83 rfl #[.slice A2 l2.length c2] rfl zG67 ?_; (with_reducible refine (laws_toIntS.calls kj19 _ _ l2 t339 _ ?side1 ?side2 A61.out).mono ?_); (case side1 => repeat (first | exact (zw HR2.out HB.out) | (with_reducible refine zs ?_ _) | (with_reducible refine zt ?_ _) | (with_reducible refine zu ?_))); (case side2 => exact HC2.out); rintro e w163 ⟨v340, rfl, ho0, hb⟩; refine ⟨_, rfl, ?_⟩; have n0_ := za (zae zG79 hb); have n1_ := za (zp zG80 hb); have n2_ := za (zak zG81 (zah ho0) hb); have n3_ := za (zak zG77 (zah ho0) hb); have n4_ := za (zak zG78 (zah ho0) hb); have n5_ := za (zae (by (with_reducible repeat (first | apply zz | apply zaa | apply zab)); exact HO333.out) hb); have n6_ := za (zp (by (with_reducible repeat (first | apply zk | apply zl | apply zn)); exact HO337.out) hb); have n7_ := za (zaj (zao (zao (zao ho0 (zap zG81)) (zap zG77)) (zap zG78)) (zo zG66)); have n8_ := za (zr (g := gb313) (o := .cells #[.slice Ao31 t307.length co31, .int .i64 t310, .int .i64 t311] 28 (0, 0)) zG74 hb); have n9_ := za (zr (g := gb329) (o := .cells #[.slice Ao41 t323.length co41, .int .i64 t326, .int .i64 t327] 28 (0, 0)) zG75 hb); have n10_ := za (zq zG66 hb); clear HO_10; clear HO_11; clear HO_12; clear HO_314000; clear HO_330000; clear HO333; clear HO337; clear BK313; clear BK329; clear HB; have HO_10 := n0_; have HO_11 := n1_; have HO_12 := n2_; have HO_314000 := n3_; have HO_330000 := n4_; have HO333 := n5_; have HO337 := n6_; have HO341 := n7_; have BK313 := n8_; have BK329 := n9_; have HB := n10_; clear n0_ n1_ n2_ n3_ n4_ n5_ n6_ n7_ n8_ n9_ n10_; (try clear hb); (try clear hb2); (try clear hk); (try clear hi); (try clear ho0); obtain ⟨Ao164, co164, eo164⟩ := zaf HO341.out; subst eo164) | ((with_reducible refine gate_callee (f := 15) rfl ?_); refine goesL_ (some 78) rfl rfl Try.func15 zG83 rfl #[.slice Ao38 t320.length co38, .slice Ao164 t339.length co164] rfl zG67 ?_; (with_reducible refine (laws_eqIntS.calls kj19 _ _ t320 _ _ t339 false _ ?side1 ?side2 ?side3 ?side4 A62.out).mono ?_); (case side1 => repeat (first | exact (Kd.R_reads' HO_12.out).2.2 | (with_reducible refine zs ?_ _) | (with_reducible refine zt ?_ _) | (with_reducible refine zu ?_))); (case side2 => exact (Kd.R_reads' HO_12.out).2.1); (case side3 => repeat (first | exact (Kd.R_reads' HO341.out).2.2 | (with_reducible refine zs ?_ _) | (with_reducible refine zt ?_ _) | (with_reducible refine zu ?_))); (case side4 => exact (Kd.R_reads' HO341.out).2.1); rintro e w' ⟨rfl, ⟨nd, rfl⟩⟩; refine ⟨_, rfl, ?_⟩))
          go_ret
          exact ⟨by first | rfl | (simp [errW_none, errW_some] <;> rfl) | (simp [*, errW_none, errW_some] <;> rfl), by repeat (first | (with_reducible first | exact HB.out | apply zd | apply zb | apply zc | refine zf ?_ GE313.out | refine zf ?_ GE329.out) | exact HB.out)⟩
        ·replace c60 := Bool.eq_false_iff.mpr c60
         subst c60
         have H1 : (some false) = some r := by rw [if_neg (show ¬ (false = true) by decide)] at H; exact H
         clear H
         have H := H1
         clear H1
         obtain rfl := Option.some.inj H
         go_wp2_with (first | ((with_reducible refine gate_callee (f := 8) rfl ?_); refine goesL_ (some 67) rfl rfl Try.func8 zG83 rfl #[.slice A0 l0.length c0] rfl zG67 ?_; (with_reducible refine (laws_toSourceS.calls kj19 _ _ l0 t331 _ ?side1 ?side2 A55.out).mono ?_); (case side1 => repeat (first | exact (zw HR0.out HB.out) | (with_reducible refine zs ?_ _) | (with_reducible refine zt ?_ _) | (with_reducible refine zu ?_))); (case side2 => exact HC0.out); rintro e w165 ⟨v332, rfl, ho0, hb⟩; refine ⟨_, rfl, ?_⟩; have n0_ := za (zaq zG79 (Kd.S_base ho0) hb); have n1_ := za (zp zG80 hb); have n2_ := za (zp zG81 hb); have n3_ := za (zp zG77 hb); have n4_ := za (zp zG78 hb); have n5_ := za (zbe (zay (zay ho0 (Kd.S_lt zG79)) (zap zG80)) (zo zG66)); have n6_ := za (zr (g := gb313) (o := .cells #[.slice Ao31 t307.length co31, .int .i64 t310, .int .i64 t311] 28 (0, 0)) zG74 hb); have n7_ := za (zr (g := gb329) (o := .cells #[.slice Ao41 t323.length co41, .int .i64 t326, .int .i64 t327] 28 (0, 0)) zG75 hb); have n8_ := za (zq zG66 hb); clear HO_10; clear HO_11; clear HO_12; clear HO_314000; clear HO_330000; clear BK313; clear BK329; clear HB; have HO_10 := n0_; have HO_11 := n1_; have HO_12 := n2_; have HO_314000 := n3_; have HO_330000 := n4_; have HO333 := n5_; have BK313 := n6_; have BK329 := n7_; have HB := n8_; clear n0_ n1_ n2_ n3_ n4_ n5_ n6_ n7_ n8_; (try clear hb); (try clear hb2); (try clear hk); (try clear hi); (try clear ho0); obtain ⟨Ao166, co166, eo166⟩ := zbh HO333.out; subst eo166) | ((with_reducible refine gate_callee (f := 13) rfl ?_); refine goesL_ (some 68) rfl rfl Try.func13 zG83 rfl #[.slice Ao36 t314.length co36, .slice Ao166 t331.length co166] rfl zG67 ?_; (with_reducible refine (laws_eqSourceS.calls kj19 _ _ t314 _ _ t331 true _ ?side1 ?side2 ?side3 ?side4 A56.out).mono ?_); (case side1 => repeat (first | exact (zai HO_10.out).2.2 | (with_reducible refine zs ?_ _) | (with_reducible refine zt ?_ _) | (with_reducible refine zu ?_))); (case side2 => exact (zai HO_10.out).2.1); (case side3 => repeat (first | exact (zai HO333.out).2.2 | (with_reducible refine zs ?_ _) | (with_reducible refine zt ?_ _) | (with_reducible refine zu ?_))); (case side4 => exact (zai HO333.out).2.1); rintro e w167 ⟨rfl, hb⟩; refine ⟨_, rfl, ?_⟩; have n0_ := za (zae zG79 hb); have n1_ := za (zp zG80 hb); have n2_ := za (zp zG81 hb); have n3_ := za (zp zG77 hb); have n4_ := za (zp zG78 hb); have n5_ := za (zae (by (with_reducible repeat (first | apply zz | apply zaa | apply zab)); exact HO333.out) hb); have n6_ := za (zr (g := gb313) (o := .cells #[.slice Ao31 t307.length co31, .int .i64 t310, .int .i64 t311] 28 (0, 0)) zG74 hb); have n7_ := za (zr (g := gb329) (o := .cells #[.slice Ao41 t323.length co41, .int .i64 t326, .int .i64 t327] 28 (0, 0)) zG75 hb); have n8_ := za (zq zG66 hb); clear HO_10; clear HO_11; clear HO_12; clear HO_314000; clear HO_330000; clear HO333; clear BK313; clear BK329; clear HB; have HO_10 := n0_; have HO_11 := n1_; have HO_12 := n2_; have HO_314000 := n3_; have HO_330000 := n4_; have HO333 := n5_; have BK313 := n6_; have BK329 := n7_; have HB := n8_; clear n0_ n1_ n2_ n3_ n4_ n5_ n6_ n7_ n8_; (try clear hb); (try clear hb2); (try clear hk); (try clear hi)) | ((with_reducible refine gate_callee (f := 9) rfl ?_); refine goesL_ (some 72) rfl rfl Try.func9 zG83 rfl #[.slice A1 l1.length c1] rfl zG67 ?_; (with_reducible refine (laws_toStockedS.calls kj19 _ _ l1 t335 _ ?side1 ?side2 A58.out).mono ?_); (case side1 => repeat (first | exact (zw HR1.out HB.out) | (with_reducible refine zs ?_ _) | (with_reducible refine zt ?_ _) | (with_reducible refine zu ?_))); (case side2 => exact HC1.out); rintro e w168 ⟨v336, rfl, ho0, hb⟩; refine ⟨_, rfl, ?_⟩; have n0_ := za (zaq zG79 (zah ho0) hb); have n1_ := za (zak zG80 (zah ho0) hb); have n2_ := za (zp zG81 hb); have n3_ := za (zp zG77 hb); have n4_ := za (zp zG78 hb); have n5_ := za (zaq (by (with_reducible repeat (first | apply zz | apply zaa | apply zab)); exact HO333.out) (zah ho0) hb); have n6_ := za (zaj (zao ho0 (zap zG80)) (zo zG66)); have n7_ := za (zr (g := gb313) (o := .cells #[.slice Ao31 t307.length co31, .int .i64 t310, .int .i64 t311] 28 (0, 0)) zG74 hb); have n8_ := za (zr (g := gb329) (o := .cells #[.slice Ao41 t323.length co41, .int .i64 t326, .int .i64 t327] 28 (0, 0)) zG75 hb); have n9_ := za (zq zG66 hb); clear HO_10; clear HO_11; clear HO_12; clear HO_314000; clear HO_330000; clear HO333; clear BK313; clear BK329; clear HB; have HO_10 := n0_; have HO_11 := n1_; have HO_12 := n2_; have HO_314000 := n3_; have HO_330000 := n4_; have HO333 := n5_; have HO337 := n6_; have BK313 := n7_; have BK329 := n8_; have HB := n9_; clear n0_ n1_ n2_ n3_ n4_ n5_ n6_ n7_ n8_ n9_; (try clear hb); (try clear hb2); (try clear hk); (try clear hi); (try clear ho0); obtain ⟨Ao169, co169, eo169⟩ := zaf HO337.out; subst eo169) | ((with_reducible refine gate_callee (f := 14) rfl ?_); refine goesL_ (some 73) rfl rfl Try.func14 zG83 rfl #[.slice Ao37 t317.length co37, .slice Ao169 t335.length co169] rfl zG67 ?_; (with_reducible refine (laws_eqStockedS.calls kj19 _ _ t317 _ _ t335 false _ ?side1 ?side2 ?side3 ?side4 A59.out).mono ?_); (case side1 => repeat (first | exact (Kd.R_reads' HO_11.out).2.2 | (with_reducible refine zs ?_ _) | (with_reducible refine zt ?_ _) | (with_reducible refine zu ?_))); (case side2 => exact (Kd.R_reads' HO_11.out).2.1); (case side3 => repeat (first | exact (Kd.R_reads' HO337.out).2.2 | (with_reducible refine zs ?_ _) | (with_reducible refine zt ?_ _) | (with_reducible refine zu ?_))); (case side4 => exact (Kd.R_reads' HO337.out).2.1); rintro e w170 ⟨rfl, hb⟩; refine ⟨_, rfl, ?_⟩; have n0_ := za (zae zG79 hb); have n1_ := za (zp zG80 hb); have n2_ := za (zp zG81 hb); have n3_ := za (zp zG77 hb); have n4_ := za (zp zG78 hb); have n5_ := za (zae (by (with_reducible repeat (first | apply zz | apply zaa | apply zab)); exact HO333.out) hb); have n6_ := za (zp (by (with_reducible repeat (first | apply zk | apply zl | apply zn)); exact HO337.out) hb); have n7_ := za (zr (g := gb313) (o := .cells #[.slice Ao31 t307.length co31, .int .i64 t310, .int .i64 t311] 28 (0, 0)) zG74 hb); have n8_ := za (zr (g := gb329) (o := .cells #[.slice Ao41 t323.length co41, .int .i64 t326, .int .i64 t327] 28 (0, 0)) zG75 hb); have n9_ := za (zq zG66 hb); clear HO_10; clear HO_11; clear HO_12; clear HO_314000; clear HO_330000; clear HO333; clear HO337; clear BK313; clear BK329; clear HB; have HO_10 := n0_; have HO_11 := n1_; have HO_12 := n2_; have HO_314000 := n3_; have HO_330000 := n4_; have HO333 := n5_; have HO337 := n6_; have BK313 := n7_; have BK329 := n8_; have HB := n9_; clear n0_ n1_ n2_ n3_ n4_ n5_ n6_ n7_ n8_ n9_; (try clear hb); (try clear hb2); (try clear hk); (try clear hi)))
         go_ret
         exact ⟨by first | rfl | (simp [errW_none, errW_some] <;> rfl) | (simp [*, errW_none, errW_some] <;> rfl), by repeat (first | (with_reducible first | exact HB.out | apply zd | apply zb | apply zc | refine zf ?_ GE313.out | refine zf ?_ GE329.out) | exact HB.out)⟩
       ·replace c57 := Bool.eq_false_iff.mpr c57
        subst c57
        have H1 : (some false) = some r := by rw [if_neg (show ¬ (false = true) by decide)] at H; exact H
        clear H
        have H := H1
        clear H1
        obtain rfl := Option.some.inj H
        go_wp2_with (first | ((with_reducible refine gate_callee (f := 8) rfl ?_); refine goesL_ (some 67) rfl rfl Try.func8 zG83 rfl #[.slice A0 l0.length c0] rfl zG67 ?_; (with_reducible refine (laws_toSourceS.calls kj19 _ _ l0 t331 _ ?side1 ?side2 A55.out).mono ?_); (case side1 => repeat (first | exact (zw HR0.out HB.out) | (with_reducible refine zs ?_ _) | (with_reducible refine zt ?_ _) | (with_reducible refine zu ?_))); (case side2 => exact HC0.out); rintro e w171 ⟨v332, rfl, ho0, hb⟩; refine ⟨_, rfl, ?_⟩; have n0_ := za (zaq zG79 (Kd.S_base ho0) hb); have n1_ := za (zp zG80 hb); have n2_ := za (zp zG81 hb); have n3_ := za (zp zG77 hb); have n4_ := za (zp zG78 hb); have n5_ := za (zbe (zay (zay ho0 (Kd.S_lt zG79)) (zap zG80)) (zo zG66)); have n6_ := za (zr (g := gb313) (o := .cells #[.slice Ao31 t307.length co31, .int .i64 t310, .int .i64 t311] 28 (0, 0)) zG74 hb); have n7_ := za (zr (g := gb329) (o := .cells #[.slice Ao41 t323.length co41, .int .i64 t326, .int .i64 t327] 28 (0, 0)) zG75 hb); have n8_ := za (zq zG66 hb); clear HO_10; clear HO_11; clear HO_12; clear HO_314000; clear HO_330000; clear BK313; clear BK329; clear HB; have HO_10 := n0_; have HO_11 := n1_; have HO_12 := n2_; have HO_314000 := n3_; have HO_330000 := n4_; have HO333 := n5_; have BK313 := n6_; have BK329 := n7_; have HB := n8_; clear n0_ n1_ n2_ n3_ n4_ n5_ n6_ n7_ n8_; (try clear hb); (try clear hb2); (try clear hk); (try clear hi); (try clear ho0); obtain ⟨Ao172, co172, eo172⟩ := zbh HO333.out; subst eo172) | ((with_reducible refine gate_callee (f := 13) rfl ?_); refine goesL_ (some 68) rfl rfl Try.func13 zG83 rfl #[.slice Ao36 t314.length co36, .slice Ao172 t331.length co172] rfl zG67 ?_; (with_reducible refine (laws_eqSourceS.calls kj19 _ _ t314 _ _ t331 false _ ?side1 ?side2 ?side3 ?side4 A56.out).mono ?_); (case side1 => repeat (first | exact (zai HO_10.out).2.2 | (with_reducible refine zs ?_ _) | (with_reducible refine zt ?_ _) | (with_reducible refine zu ?_))); (case side2 => exact (zai HO_10.out).2.1); (case side3 => repeat (first | exact (zai HO333.out).2.2 | (with_reducible refine zs ?_ _) | (with_reducible refine zt ?_ _) | (with_reducible refine zu ?_))); (case side4 => exact (zai HO333.out).2.1); rintro e w173 ⟨rfl, hb⟩; refine ⟨_, rfl, ?_⟩; have n0_ := za (zae zG79 hb); have n1_ := za (zp zG80 hb); have n2_ := za (zp zG81 hb); have n3_ := za (zp zG77 hb); have n4_ := za (zp zG78 hb); have n5_ := za (zae (by (with_reducible repeat (first | apply zz | apply zaa | apply zab)); exact HO333.out) hb); have n6_ := za (zr (g := gb313) (o := .cells #[.slice Ao31 t307.length co31, .int .i64 t310, .int .i64 t311] 28 (0, 0)) zG74 hb); have n7_ := za (zr (g := gb329) (o := .cells #[.slice Ao41 t323.length co41, .int .i64 t326, .int .i64 t327] 28 (0, 0)) zG75 hb); have n8_ := za (zq zG66 hb); clear HO_10; clear HO_11; clear HO_12; clear HO_314000; clear HO_330000; clear HO333; clear BK313; clear BK329; clear HB; have HO_10 := n0_; have HO_11 := n1_; have HO_12 := n2_; have HO_314000 := n3_; have HO_330000 := n4_; have HO333 := n5_; have BK313 := n6_; have BK329 := n7_; have HB := n8_; clear n0_ n1_ n2_ n3_ n4_ n5_ n6_ n7_ n8_; (try clear hb); (try clear hb2); (try clear hk); (try clear hi)))
        go_ret
        exact ⟨by first | rfl | (simp [errW_none, errW_some] <;> rfl) | (simp [*, errW_none, errW_some] <;> rfl), by repeat (first | (with_reducible first | exact HB.out | apply zd | apply zb | apply zc | refine zf ?_ GE313.out | refine zf ?_ GE329.out) | exact HB.out)⟩

end Go.Proofs.Ytjibigpdbpipcaa.L
