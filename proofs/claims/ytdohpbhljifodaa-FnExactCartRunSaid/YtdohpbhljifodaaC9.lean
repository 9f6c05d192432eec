-- squeezed
-- made by pp.py (wip/tools) out of the translation; Lean checks it
import Derived.Test.YtdohpbhljifodaaC0
import Derived.Test.YtdohpbhljifodaaC3
import Derived.Test.YtdohpbhljifodaaC5
import Derived.Test.YtdohpbhljifodaaC6
import Derived.Test.YtdohpbhljifodaaC7
import Derived.Test.YtdohpbhljifodaaC8
namespace Go.Proofs.Ytdohpbhljifodaa.C
open Go.RowKit Go.Proofs.YtdohpbhljifodaaW.PrintWords Go.Proofs.YtdohpbhljifodaaW.PrintLast Go.Proofs.YtdohpbhljifodaaW.PrintMore
attribute [local go_sem] max2_int min2_int max_two min_two max_three min_three max_four min_four   -- for this text's walks alone
set_option linter.unusedVariables false
set_option linter.unusedSimpArgs false


/-! ### laws_FnExactCartRun: function 4 -/
mutual
def laws_FnExactCartRun.j0 : Nat → Int → List (S60) → List (S34) → Int → List (S54) → List (S34) → Int → Bool → Int → Int → Int → List (S36) → Int → Int → Int → List (S36) → Option (Bool)
 | 0, _, _, _, _, _, _, _, _, _, _, _, _, _, _, _, _ => none
 | k + 1, x0, x1, x6, x8, x9, x10, x12, x55, x272000, x272001, x272002, x272003, x286000, x286001, x286002, x286003 => if x55 = true then (some false) else ((laws_toCartActS.f k x1).bind fun t288 => ((laws_eqCartActS.f k x9 t288).bind fun t291 => (if t291 = true then ((laws_markCartActS.f k x9 1).bind fun bt292 => (if bt292.1 < 0 then (laws_FnExactCartRun.j1 k x0 x1 x6 x8 x10 true x272000 x272001 x272002 x272003 x286000 x286001 x286002 x286003) else ((laws_eqCartObsS.f k x10 x6).bind fun t294 => (if t294 = true then ((laws_eqCarts.f k x286000 x286001 x286002 x286003 x272000 x272001 x272002 x272003).bind fun t295 => (if t295 = true then (laws_FnExactCartRun.j1 k x0 x1 x6 x8 x10 (x12 != x8) x272000 x272001 x272002 x272003 x286000 x286001 x286002 x286003) else (laws_FnExactCartRun.j1 k x0 x1 x6 x8 x10 true x272000 x272001 x272002 x272003 x286000 x286001 x286002 x286003))) else (laws_FnExactCartRun.j1 k x0 x1 x6 x8 x10 true x272000 x272001 x272002 x272003 x286000 x286001 x286002 x286003))))) else (some false))))
def laws_FnExactCartRun.j1 : Nat → Int → List (S60) → List (S34) → Int → List (S34) → Bool → Int → Int → Int → List (S36) → Int → Int → Int → List (S36) → Option (Bool)
 | 0, _, _, _, _, _, _, _, _, _, _, _, _, _, _ => none
 | k + 1, x0, x1, x6, x8, x10, x82, x272000, x272001, x272002, x272003, x286000, x286001, x286002, x286003 => if x82 = true then (some false) else ((laws_markCartObsS.f k x10 1).bind fun bt296 => ((laws_markCarts.f k x286000 x286001 x286002 x286003 bt296.1).bind fun bt298 => ((laws_heldCartObsS.f k bt296.2 1).bind fun t300 => (if t300 < 0 then (some false) else ((laws_heldCarts.f k x286000 x286001 x286002 bt298.2 t300).bind fun t301 => (if t301 < 0 then (some false) else (if t301 = bt298.1 then ((laws_toCartActS.f k x1).bind fun t302 => ((impl_CartRun.f k x0 t302).bind fun bt305 => ((laws_eqCartObsS.f k bt305.1 x6).bind fun t316 => (if t316 = true then ((laws_eqCarts.f k bt305.2.1 bt305.2.2.1 bt305.2.2.2.1 bt305.2.2.2.2.1 x272000 x272001 x272002 x272003).bind fun t317 => (if t317 = true then (laws_FnExactCartRun.j2 k bt296.2 bt298.1 (bt305.2.2.2.2.2 != x8) x286000 x286001 x286002 bt298.2) else (laws_FnExactCartRun.j2 k bt296.2 bt298.1 true x286000 x286001 x286002 bt298.2))) else (laws_FnExactCartRun.j2 k bt296.2 bt298.1 true x286000 x286001 x286002 bt298.2))))) else (some false))))))))
def laws_FnExactCartRun.j2 : Nat → List (S34) → Int → Bool → Int → Int → Int → List (S36) → Option (Bool)
 | 0, _, _, _, _, _, _, _ => none
 | k + 1, x10, x14, x124, x286000, x286001, x286002, x286003 => if x124 = true then (some false) else ((laws_heldCartObsS.f k x10 1).bind fun t318 => (if t318 < 0 then (some false) else ((laws_heldCarts.f k x286000 x286001 x286002 x286003 t318).bind fun t319 => (if t319 < 0 then (some false) else (if t319 = x14 then (some true) else (some false))))))
end
def laws_FnExactCartRun.f (k : Nat) (a0 : Int) (l1 : List (S60)) : Option (Bool) := (laws_szCartActS.f l1 1048576).bind fun t257 => (if t257 < 0 then (some true) else ((laws_toCartActS.f k l1).bind fun t258 => ((spec_CartRun.f k a0 t258).bind fun bt261 => ((laws_toCartActS.f k l1).bind fun t272 => ((impl_CartRun.f k a0 t272).bind fun bt275 => ((laws_eqCartObsS.f k bt275.1 bt261.1).bind fun t286 => (if t286 = true then ((laws_eqCarts.f k bt275.2.1 bt275.2.2.1 bt275.2.2.2.1 bt275.2.2.2.2.1 bt261.2.1 bt261.2.2.1 bt261.2.2.2.1 bt261.2.2.2.2.1).bind fun t287 => (if t287 = true then (laws_FnExactCartRun.j0 k a0 l1 bt261.1 bt261.2.2.2.2.2 t272 bt275.1 bt275.2.2.2.2.2 (bt275.2.2.2.2.2 != bt261.2.2.2.2.2) bt261.2.1 bt261.2.2.1 bt261.2.2.2.1 bt261.2.2.2.2.1 bt275.2.1 bt275.2.2.1 bt275.2.2.2.1 bt275.2.2.2.2.1) else (laws_FnExactCartRun.j0 k a0 l1 bt261.1 bt261.2.2.2.2.2 t272 bt275.1 bt275.2.2.2.2.2 true bt261.2.1 bt261.2.2.1 bt261.2.2.2.1 bt261.2.2.2.2.1 bt275.2.1 bt275.2.2.1 bt275.2.2.2.1 bt275.2.2.2.2.1))) else (laws_FnExactCartRun.j0 k a0 l1 bt261.1 bt261.2.2.2.2.2 t272 bt275.1 bt275.2.2.2.2.2 true bt261.2.1 bt261.2.2.1 bt261.2.2.2.1 bt261.2.2.2.2.1 bt275.2.1 bt275.2.2.1 bt275.2.2.2.1 bt275.2.2.2.2.1))))))))
theorem laws_FnExactCartRun.mono_l : ∀ k, (∀ y0 y1 y2 y3 y4 y5 y6 y7 y8 y9 y10 y11 y12 y13 y14 y15, LeO (laws_FnExactCartRun.j0 k y0 y1 y2 y3 y4 y5 y6 y7 y8 y9 y10 y11 y12 y13 y14 y15) (laws_FnExactCartRun.j0 (k + 1) y0 y1 y2 y3 y4 y5 y6 y7 y8 y9 y10 y11 y12 y13 y14 y15)) ∧ (∀ y0 y1 y2 y3 y4 y5 y6 y7 y8 y9 y10 y11 y12 y13, LeO (laws_FnExactCartRun.j1 k y0 y1 y2 y3 y4 y5 y6 y7 y8 y9 y10 y11 y12 y13) (laws_FnExactCartRun.j1 (k + 1) y0 y1 y2 y3 y4 y5 y6 y7 y8 y9 y10 y11 y12 y13)) ∧ (∀ y0 y1 y2 y3 y4 y5 y6, LeO (laws_FnExactCartRun.j2 k y0 y1 y2 y3 y4 y5 y6) (laws_FnExactCartRun.j2 (k + 1) y0 y1 y2 y3 y4 y5 y6))
 | 0 => ⟨fun _ _ _ _ _ _ _ _ _ _ _ _ _ _ _ _ r h => by simp [laws_FnExactCartRun.j0] at h, fun _ _ _ _ _ _ _ _ _ _ _ _ _ _ r h => by simp [laws_FnExactCartRun.j1] at h, fun _ _ _ _ _ _ _ r h => by simp [laws_FnExactCartRun.j2] at h⟩
 | k + 1 => by
  obtain ⟨ih0, ih1, ih2⟩ := laws_FnExactCartRun.mono_l k
  refine ⟨?_, ?_, ?_⟩
  ·intro y0 y1 y2 y3 y4 y5 y6 y7 y8 y9 y10 y11 y12 y13 y14 y15
   unfold laws_FnExactCartRun.j0
   repeat' first
   | (with_reducible exact ih0 _ _ _ _ _ _ _ _ _ _ _ _ _ _ _ _)
   | (with_reducible exact ih1 _ _ _ _ _ _ _ _ _ _ _ _ _ _)
   | (with_reducible exact ih2 _ _ _ _ _ _ _)
   | (with_reducible exact impl_CartRun.mono _ _ _)
   | (with_reducible exact laws_eqCartActS.mono _ _ _)
   | (with_reducible exact laws_eqCartObsS.mono _ _ _)
   | (with_reducible exact laws_eqCarts.mono _ _ _ _ _ _ _ _ _)
   | (with_reducible exact laws_heldCartObsS.mono _ _ _)
   | (with_reducible exact laws_heldCarts.mono _ _ _ _ _ _)
   | (with_reducible exact laws_markCartActS.mono _ _ _)
   | (with_reducible exact laws_markCartObsS.mono _ _ _)
   | (with_reducible exact laws_markCarts.mono _ _ _ _ _ _)
   | (with_reducible exact laws_toCartActS.mono _ _)
   | (with_reducible exact spec_CartRun.mono _ _ _)
   | (with_reducible exact LeO.refl _)
   | (with_reducible exact LeO.none _)
   | (with_reducible refine LeO.ite ?_ ?_)
   | (with_reducible refine LeO.bind ?_ (fun _ => ?_))
   | exact ih0 _ _ _ _ _ _ _ _ _ _ _ _ _ _ _ _
   | exact ih1 _ _ _ _ _ _ _ _ _ _ _ _ _ _
   | exact ih2 _ _ _ _ _ _ _
   | exact impl_CartRun.mono _ _ _
   | exact laws_eqCartActS.mono _ _ _
   | exact laws_eqCartObsS.mono _ _ _
   | exact laws_eqCarts.mono _ _ _ _ _ _ _ _ _
   | exact laws_heldCartObsS.mono _ _ _
   | exact laws_heldCarts.mono _ _ _ _ _ _
   | exact laws_markCartActS.mono _ _ _
   | exact laws_markCartObsS.mono _ _ _
   | exact laws_markCarts.mono _ _ _ _ _ _
   | exact laws_toCartActS.mono _ _
   | exact spec_CartRun.mono _ _ _
   | exact LeO.none _
   | refine LeO.ite ?_ ?_
   | refine LeO.bind ?_ (fun _ => ?_)
  ·intro y0 y1 y2 y3 y4 y5 y6 y7 y8 y9 y10 y11 y12 y13
   unfold laws_FnExactCartRun.j1
   repeat' first
   | (with_reducible exact ih0 _ _ _ _ _ _ _ _ _ _ _ _ _ _ _ _)
   | (with_reducible exact ih1 _ _ _ _ _ _ _ _ _ _ _ _ _ _)
   | (with_reducible exact ih2 _ _ _ _ _ _ _)
   | (with_reducible exact impl_CartRun.mono _ _ _)
   | (with_reducible exact laws_eqCartActS.mono _ _ _)
   | (with_reducible exact laws_eqCartObsS.mono _ _ _)
   | (with_reducible exact laws_eqCarts.mono _ _ _ _ _ _ _ _ _)
   | (with_reducible exact laws_heldCartObsS.mono _ _ _)
   | (with_reducible exact laws_heldCarts.mono _ _ _ _ _ _)
   | (with_reducible exact laws_markCartActS.mono _ _ _)
   | (with_reducible exact laws_markCartObsS.mono _ _ _)
   | (with_reducible exact laws_markCarts.mono _ _ _ _ _ _)
   | (with_reducible exact laws_toCartActS.mono _ _)
   | (with_reducible exact spec_CartRun.mono _ _ _)
   | (with_reducible exact LeO.refl _)
   | (with_reducible exact LeO.none _)
   | (with_reducible refine LeO.ite ?_ ?_)
   | (with_reducible refine LeO.bind ?_ (fun _ => ?_))
   | exact ih0 _ _ _ _ _ _ _ _ _ _ _ _ _ _ _ _
   | exact ih1 _ _ _ _ _ _ _ _ _ _ _ _ _ _
   | exact ih2 _ _ _ _ _ _ _
   | exact impl_CartRun.mono _ _ _
   | exact laws_eqCartActS.mono _ _ _
   | exact laws_eqCartObsS.mono _ _ _
   | exact laws_eqCarts.mono _ _ _ _ _ _ _ _ _
   | exact laws_heldCartObsS.mono _ _ _
   | exact laws_heldCarts.mono _ _ _ _ _ _
   | exact laws_markCartActS.mono _ _ _
   | exact laws_markCartObsS.mono _ _ _
   | exact laws_markCarts.mono _ _ _ _ _ _
   | exact laws_toCartActS.mono _ _
   | exact spec_CartRun.mono _ _ _
   | exact LeO.none _
   | refine LeO.ite ?_ ?_
   | refine LeO.bind ?_ (fun _ => ?_)
  ·intro y0 y1 y2 y3 y4 y5 y6
   unfold laws_FnExactCartRun.j2
   repeat' first
   | (with_reducible exact ih0 _ _ _ _ _ _ _ _ _ _ _ _ _ _ _ _)
   | (with_reducible exact ih1 _ _ _ _ _ _ _ _ _ _ _ _ _ _)
   | (with_reducible exact ih2 _ _ _ _ _ _ _)
   | (with_reducible exact impl_CartRun.mono _ _ _)
   | (with_reducible exact laws_eqCartActS.mono _ _ _)
   | (with_reducible exact laws_eqCartObsS.mono _ _ _)
   | (with_reducible exact laws_eqCarts.mono _ _ _ _ _ _ _ _ _)
   | (with_reducible exact laws_heldCartObsS.mono _ _ _)
   | (with_reducible exact laws_heldCarts.mono _ _ _ _ _ _)
   | (with_reducible exact laws_markCartActS.mono _ _ _)
   | (with_reducible exact laws_markCartObsS.mono _ _ _)
   | (with_reducible exact laws_markCarts.mono _ _ _ _ _ _)
   | (with_reducible exact laws_toCartActS.mono _ _)
   | (with_reducible exact spec_CartRun.mono _ _ _)
   | (with_reducible exact LeO.refl _)
   | (with_reducible exact LeO.none _)
   | (with_reducible refine LeO.ite ?_ ?_)
   | (with_reducible refine LeO.bind ?_ (fun _ => ?_))
   | exact ih0 _ _ _ _ _ _ _ _ _ _ _ _ _ _ _ _
   | exact ih1 _ _ _ _ _ _ _ _ _ _ _ _ _ _
   | exact ih2 _ _ _ _ _ _ _
   | exact impl_CartRun.mono _ _ _
   | exact laws_eqCartActS.mono _ _ _
   | exact laws_eqCartObsS.mono _ _ _
   | exact laws_eqCarts.mono _ _ _ _ _ _ _ _ _
   | exact laws_heldCartObsS.mono _ _ _
   | exact laws_heldCarts.mono _ _ _ _ _ _
   | exact laws_markCartActS.mono _ _ _
   | exact laws_markCartObsS.mono _ _ _
   | exact laws_markCarts.mono _ _ _ _ _ _
   | exact laws_toCartActS.mono _ _
   | exact spec_CartRun.mono _ _ _
   | exact LeO.none _
   | refine LeO.ite ?_ ?_
   | refine LeO.bind ?_ (fun _ => ?_)
theorem laws_FnExactCartRun.mono : ∀ a0 a1 k, LeO (laws_FnExactCartRun.f k a0 a1) (laws_FnExactCartRun.f (k + 1) a0 a1) := by
 intro a0 a1 k
 obtain ⟨ih0, ih1, ih2⟩ := laws_FnExactCartRun.mono_l k
 unfold laws_FnExactCartRun.f
 repeat' first
   | (with_reducible exact ih0 _ _ _ _ _ _ _ _ _ _ _ _ _ _ _ _)
   | (with_reducible exact ih1 _ _ _ _ _ _ _ _ _ _ _ _ _ _)
   | (with_reducible exact ih2 _ _ _ _ _ _ _)
   | (with_reducible exact impl_CartRun.mono _ _ _)
   | (with_reducible exact laws_eqCartActS.mono _ _ _)
   | (with_reducible exact laws_eqCartObsS.mono _ _ _)
   | (with_reducible exact laws_eqCarts.mono _ _ _ _ _ _ _ _ _)
   | (with_reducible exact laws_heldCartObsS.mono _ _ _)
   | (with_reducible exact laws_heldCarts.mono _ _ _ _ _ _)
   | (with_reducible exact laws_markCartActS.mono _ _ _)
   | (with_reducible exact laws_markCartObsS.mono _ _ _)
   | (with_reducible exact laws_markCarts.mono _ _ _ _ _ _)
   | (with_reducible exact laws_toCartActS.mono _ _)
   | (with_reducible exact spec_CartRun.mono _ _ _)
   | (with_reducible exact LeO.refl _)
   | (with_reducible exact LeO.none _)
   | (with_reducible refine LeO.ite ?_ ?_)
   | (with_reducible refine LeO.bind ?_ (fun _ => ?_))
   | exact ih0 _ _ _ _ _ _ _ _ _ _ _ _ _ _ _ _
   | exact ih1 _ _ _ _ _ _ _ _ _ _ _ _ _ _
   | exact ih2 _ _ _ _ _ _ _
   | exact impl_CartRun.mono _ _ _
   | exact laws_eqCartActS.mono _ _ _
   | exact laws_eqCartObsS.mono _ _ _
   | exact laws_eqCarts.mono _ _ _ _ _ _ _ _ _
   | exact laws_heldCartObsS.mono _ _ _
   | exact laws_heldCarts.mono _ _ _ _ _ _
   | exact laws_markCartActS.mono _ _ _
   | exact laws_markCartObsS.mono _ _ _
   | exact laws_markCarts.mono _ _ _ _ _ _
   | exact laws_toCartActS.mono _ _
   | exact spec_CartRun.mono _ _ _
   | exact LeO.none _
   | refine LeO.ite ?_ ?_
   | refine LeO.bind ?_ (fun _ => ?_)
set_option maxHeartbeats 64000000 in
set_option maxRecDepth 100000 in
theorem laws_FnExactCartRun.calls (k : Nat) (a0 : Int) (A1 : Option Addr) (c1 : Nat) (l1 : List (S60)) (r : Bool) (w : World) (hr1 : Kd.C k60 w A1 l1.length l1) (hc1 : l1.length ≤ c1) (h : laws_FnExactCartRun.f k a0 l1 = some r) :
  Calls Try.prog 4 #[.int .i64 a0, .slice A1 l1.length c1] w fun e w' => e = .returned (.bool r) ∧ Below w.heap.size w w' := by
 have hu30 := Try.underlying30
 obtain ⟨HR1, HC1, HB⟩ := zD3 hr1 hc1 (Below.refl w.heap.size w)
 clear hr1 hc1
 have H : ((laws_szCartActS.f l1 1048576).bind fun t257 => (if t257 < 0 then (some true) else ((laws_toCartActS.f k l1).bind fun t258 => ((spec_CartRun.f k a0 t258).bind fun bt261 => ((laws_toCartActS.f k l1).bind fun t272 => ((impl_CartRun.f k a0 t272).bind fun bt275 => ((laws_eqCartObsS.f k bt275.1 bt261.1).bind fun t286 => (if t286 = true then ((laws_eqCarts.f k bt275.2.1 bt275.2.2.1 bt275.2.2.2.1 bt275.2.2.2.2.1 bt261.2.1 bt261.2.2.1 bt261.2.2.2.1 bt261.2.2.2.2.1).bind fun t287 => (if t287 = true then (laws_FnExactCartRun.j0 k a0 l1 bt261.1 bt261.2.2.2.2.2 t272 bt275.1 bt275.2.2.2.2.2 (bt275.2.2.2.2.2 != bt261.2.2.2.2.2) bt261.2.1 bt261.2.2.1 bt261.2.2.2.1 bt261.2.2.2.2.1 bt275.2.1 bt275.2.2.1 bt275.2.2.2.1 bt275.2.2.2.2.1) else (laws_FnExactCartRun.j0 k a0 l1 bt261.1 bt261.2.2.2.2.2 t272 bt275.1 bt275.2.2.2.2.2 true bt261.2.1 bt261.2.2.1 bt261.2.2.2.1 bt261.2.2.2.2.1 bt275.2.1 bt275.2.2.1 bt275.2.2.2.1 bt275.2.2.2.2.1))) else (laws_FnExactCartRun.j0 k a0 l1 bt261.1 bt261.2.2.2.2.2 t272 bt275.1 bt275.2.2.2.2.2 true bt261.2.1 bt261.2.2.1 bt261.2.2.2.1 bt261.2.2.2.2.1 bt275.2.1 bt275.2.2.1 bt275.2.2.2.1 bt275.2.2.2.2.1))))))))) = some r := h
 clear h
 replace H := Option.bind_eq_some_iff.mp H
 obtain ⟨t257, A30, H⟩ := H
 replace H : (if t257 < 0 then (some true) else ((laws_toCartActS.f k l1).bind fun t258 => ((spec_CartRun.f k a0 t258).bind fun bt261 => ((laws_toCartActS.f k l1).bind fun t272 => ((impl_CartRun.f k a0 t272).bind fun bt275 => ((laws_eqCartObsS.f k bt275.1 bt261.1).bind fun t286 => (if t286 = true then ((laws_eqCarts.f k bt275.2.1 bt275.2.2.1 bt275.2.2.2.1 bt275.2.2.2.2.1 bt261.2.1 bt261.2.2.1 bt261.2.2.2.1 bt261.2.2.2.2.1).bind fun t287 => (if t287 = true then (laws_FnExactCartRun.j0 k a0 l1 bt261.1 bt261.2.2.2.2.2 t272 bt275.1 bt275.2.2.2.2.2 (bt275.2.2.2.2.2 != bt261.2.2.2.2.2) bt261.2.1 bt261.2.2.1 bt261.2.2.2.1 bt261.2.2.2.2.1 bt275.2.1 bt275.2.2.1 bt275.2.2.2.1 bt275.2.2.2.2.1) else (laws_FnExactCartRun.j0 k a0 l1 bt261.1 bt261.2.2.2.2.2 t272 bt275.1 bt275.2.2.2.2.2 true bt261.2.1 bt261.2.2.1 bt261.2.2.2.1 bt261.2.2.2.2.1 bt275.2.1 bt275.2.2.1 bt275.2.2.2.1 bt275.2.2.2.2.1))) else (laws_FnExactCartRun.j0 k a0 l1 bt261.1 bt261.2.2.2.2.2 t272 bt275.1 bt275.2.2.2.2.2 true bt261.2.1 bt261.2.2.1 bt261.2.2.2.1 bt261.2.2.2.2.1 bt275.2.1 bt275.2.2.1 bt275.2.2.2.1 bt275.2.2.2.2.1)))))))) = some r := H
 have A3 := za A30
 clear A30
 by_cases c4 : t257 < 0
 ·rw [if_pos c4] at H
  have c4b0 := decide_eq_true c4
  clear c4
  obtain rfl := Option.some.inj H
  go_enter Try.func4, Try.ntmps4
  go_wp2_with (first | ((with_reducible refine gate_callee (f := 8) rfl ?_); refine goesL_ (some 21) rfl rfl Try.func8 zG88 rfl #[.slice A1 l1.length c1, .int .i64 1048576] rfl zG63 ?_; (with_reducible refine (laws_szCartActS.calls _ _ l1 1048576 t257 _ ?side1 ?side2 A3.out).mono ?_); (case side1 => exact zH51); (case side2 => exact HC1.out); rintro e w' ⟨rfl, ⟨nd, rfl⟩⟩; refine ⟨_, rfl, ?_⟩))
  go_ret
  exact zH21
 rw [if_neg c4] at H
 have c4b0 := decide_eq_false c4
 clear c4
 replace H := Option.bind_eq_some_iff.mp H
 obtain ⟨t258, A50, H⟩ := H
 replace H : ((spec_CartRun.f k a0 t258).bind fun bt261 => ((laws_toCartActS.f k l1).bind fun t272 => ((impl_CartRun.f k a0 t272).bind fun bt275 => ((laws_eqCartObsS.f k bt275.1 bt261.1).bind fun t286 => (if t286 = true then ((laws_eqCarts.f k bt275.2.1 bt275.2.2.1 bt275.2.2.2.1 bt275.2.2.2.2.1 bt261.2.1 bt261.2.2.1 bt261.2.2.2.1 bt261.2.2.2.2.1).bind fun t287 => (if t287 = true then (laws_FnExactCartRun.j0 k a0 l1 bt261.1 bt261.2.2.2.2.2 t272 bt275.1 bt275.2.2.2.2.2 (bt275.2.2.2.2.2 != bt261.2.2.2.2.2) bt261.2.1 bt261.2.2.1 bt261.2.2.2.1 bt261.2.2.2.2.1 bt275.2.1 bt275.2.2.1 bt275.2.2.2.1 bt275.2.2.2.2.1) else (laws_FnExactCartRun.j0 k a0 l1 bt261.1 bt261.2.2.2.2.2 t272 bt275.1 bt275.2.2.2.2.2 true bt261.2.1 bt261.2.2.1 bt261.2.2.2.1 bt261.2.2.2.2.1 bt275.2.1 bt275.2.2.1 bt275.2.2.2.1 bt275.2.2.2.2.1))) else (laws_FnExactCartRun.j0 k a0 l1 bt261.1 bt261.2.2.2.2.2 t272 bt275.1 bt275.2.2.2.2.2 true bt261.2.1 bt261.2.2.1 bt261.2.2.2.1 bt261.2.2.2.2.1 bt275.2.1 bt275.2.2.1 bt275.2.2.2.1 bt275.2.2.2.2.1)))))) = some r := H
 have A5 := za A50
 clear A50
 replace H := Option.bind_eq_some_iff.mp H
 obtain ⟨⟨t261, t264, t265, t266, t267, t270⟩, A60, H⟩ := H
 replace H : ((laws_toCartActS.f k l1).bind fun t272 => ((impl_CartRun.f k a0 t272).bind fun bt275 => ((laws_eqCartObsS.f k bt275.1 t261).bind fun t286 => (if t286 = true then ((laws_eqCarts.f k bt275.2.1 bt275.2.2.1 bt275.2.2.2.1 bt275.2.2.2.2.1 t264 t265 t266 t267).bind fun t287 => (if t287 = true then (laws_FnExactCartRun.j0 k a0 l1 t261 t270 t272 bt275.1 bt275.2.2.2.2.2 (bt275.2.2.2.2.2 != t270) t264 t265 t266 t267 bt275.2.1 bt275.2.2.1 bt275.2.2.2.1 bt275.2.2.2.2.1) else (laws_FnExactCartRun.j0 k a0 l1 t261 t270 t272 bt275.1 bt275.2.2.2.2.2 true t264 t265 t266 t267 bt275.2.1 bt275.2.2.1 bt275.2.2.2.1 bt275.2.2.2.2.1))) else (laws_FnExactCartRun.j0 k a0 l1 t261 t270 t272 bt275.1 bt275.2.2.2.2.2 true t264 t265 t266 t267 bt275.2.1 bt275.2.2.1 bt275.2.2.2.1 bt275.2.2.2.2.1))))) = some r := H
 have A6 := za A60
 clear A60
 replace H := Option.bind_eq_some_iff.mp H
 obtain ⟨t272, A70, H⟩ := H
 replace H : ((impl_CartRun.f k a0 t272).bind fun bt275 => ((laws_eqCartObsS.f k bt275.1 t261).bind fun t286 => (if t286 = true then ((laws_eqCarts.f k bt275.2.1 bt275.2.2.1 bt275.2.2.2.1 bt275.2.2.2.2.1 t264 t265 t266 t267).bind fun t287 => (if t287 = true then (laws_FnExactCartRun.j0 k a0 l1 t261 t270 t272 bt275.1 bt275.2.2.2.2.2 (bt275.2.2.2.2.2 != t270) t264 t265 t266 t267 bt275.2.1 bt275.2.2.1 bt275.2.2.2.1 bt275.2.2.2.2.1) else (laws_FnExactCartRun.j0 k a0 l1 t261 t270 t272 bt275.1 bt275.2.2.2.2.2 true t264 t265 t266 t267 bt275.2.1 bt275.2.2.1 bt275.2.2.2.1 bt275.2.2.2.2.1))) else (laws_FnExactCartRun.j0 k a0 l1 t261 t270 t272 bt275.1 bt275.2.2.2.2.2 true t264 t265 t266 t267 bt275.2.1 bt275.2.2.1 bt275.2.2.2.1 bt275.2.2.2.2.1)))) = some r := H
 have A7 := za A70
 clear A70
 replace H := Option.bind_eq_some_iff.mp H
 obtain ⟨⟨t275, t278, t279, t280, t281, t284⟩, A80, H⟩ := H
 replace H : ((laws_eqCartObsS.f k t275 t261).bind fun t286 => (if t286 = true then ((laws_eqCarts.f k t278 t279 t280 t281 t264 t265 t266 t267).bind fun t287 => (if t287 = true then (laws_FnExactCartRun.j0 k a0 l1 t261 t270 t272 t275 t284 (t284 != t270) t264 t265 t266 t267 t278 t279 t280 t281) else (laws_FnExactCartRun.j0 k a0 l1 t261 t270 t272 t275 t284 true t264 t265 t266 t267 t278 t279 t280 t281))) else (laws_FnExactCartRun.j0 k a0 l1 t261 t270 t272 t275 t284 true t264 t265 t266 t267 t278 t279 t280 t281))) = some r := H
 obtain ⟨A8, HC9⟩ := zD2 A80 H
 clear A80 H
 go_enter Try.func4, Try.ntmps4
 go_upto_region 8 with (first | ((with_reducible refine gate_callee (f := 8) rfl ?_); refine goesL_ (some 21) rfl rfl Try.func8 zG88 rfl #[.slice A1 l1.length c1, .int .i64 1048576] rfl zG63 ?_; (with_reducible refine (laws_szCartActS.calls _ _ l1 1048576 t257 _ ?side1 ?side2 A3.out).mono ?_); (case side1 => exact zH51); (case side2 => exact HC1.out); rintro e w' ⟨rfl, ⟨nd, rfl⟩⟩; refine ⟨_, rfl, ?_⟩) | ((with_reducible refine gate_callee (f := 10) rfl ?_); refine goesL_ (some 27) rfl rfl Try.func10 zG88 rfl #[.slice A1 l1.length c1] rfl zG63 ?_; (with_reducible refine (laws_toCartActS.calls k _ _ l1 t258 _ ?side1 ?side2 A5.out).mono ?_); (case side1 => exact zH51); (case side2 => exact HC1.out); rintro e w10 ⟨v259, rfl, ho0, hb⟩; refine ⟨_, rfl, ?_⟩; have n_ := zA_ (za (zag ho0 (zs zG70))) (za (zt zG70 hb)); clear HB; obtain ⟨HO260, HB⟩ := n_; (try clear hb); (try clear hk); (try clear ho0); obtain ⟨Ao11, co11, eo11⟩ := zaa HO260.out; subst eo11) | ((with_reducible refine gate_callee (f := 9) rfl ?_); refine goesL_ (some 28) rfl rfl Try.func9 zG88 rfl #[.int .i64 a0, .slice Ao11 t258.length co11] rfl zG63 ?_; (with_reducible refine (spec_CartRun.calls k a0 _ _ t258 t261 t264 t265 t266 t267 t270 _ ?side1 ?side2 A6.out).mono ?_); (case side1 => repeat (first | exact (Kd.R_reads' HO260.out).2.2 | (with_reducible refine zy ?_ _) | (with_reducible refine zz ?_ _) | (with_reducible refine zab ?_))); (case side2 => exact (Kd.R_reads' HO260.out).2.1); rintro e w12 ⟨v262, v268, rfl, ho0, ho1, hb⟩; refine ⟨_, rfl, ?_⟩; have n_ := zA_ (za (zp zK162 hb)) (zA_ (za (zag ho0 (zs zG70))) (zA_ (za (zag ho1 (zs zG70))) (za (zt zG70 hb)))); clear HO260 HB; obtain ⟨HO260, HO263, HO269, HB⟩ := n_; (try clear hb); (try clear hk); (try clear ho0); (try clear ho1)) | ((with_reducible refine gate_dst (N := 7) rfl ?_); refine box_event ?hg (N := 7) ?hd (cs := #[.int .i64 0, .int .i64 0, .int .i64 0, .slice none 0 0]) (t := 30) ?hr ?_; (case hd => rfl); (case hg => rfl); (case hr => exact zH89); intro gb271 hg w13 hbox hb; have n_ := zA_ (za (zp zK162 hb)) (zA_ (za (zp zK163 hb)) (zA_ (za (zp zK164 hb)) (zA_ (za (zt zG70 hb)) (zA_ (za (hbox)) (zA_ (zN1 w.heap.size hg (zs zG70)) (zN1 w.heap.size hg (zs zG70))))))); clear HO260 HO263 HO269 HB; obtain ⟨HO260, HO263, HO269, HB, BK271, GW271, GE271⟩ := n_; clear hb hbox hg; obtain ⟨hcz14_0, hcz14_1, hcz14_2, hcz14_3, hfz14_0, hfz14_1, hfz14_2, hfz14_3⟩ := zB4 BK271.out; obtain ⟨Ao15, co15, eo15⟩ := zaa HO269.out; subst eo15) | ((with_reducible refine gate_callee (f := 10) rfl ?_); refine goesL_ (some 33) rfl rfl Try.func10 zG88 rfl #[.slice A1 l1.length c1] rfl zG63 ?_; (with_reducible refine (laws_toCartActS.calls k _ _ l1 t272 _ ?side1 ?side2 A7.out).mono ?_); (case side1 => exact zaq HR1.out zK141); (case side2 => exact HC1.out); rintro e w16 ⟨v273, rfl, ho0, hb⟩; refine ⟨_, rfl, ?_⟩; have n_ := zA_ (za (zaj zK117 (zam ho0) hb)) (zA_ (za (zp (by (with_reducible repeat (first | apply zm | apply zl | apply zn)); exact (zr (zo (p := ⟨gb271, 3, none⟩) (zo (p := ⟨gb271, 2, none⟩) (zo (p := ⟨gb271, 1, none⟩) (zo (p := ⟨gb271, 0, none⟩) (zw HO263.out BK271.out zG89) (fun _ hk => hk.2) (.int .i64 t264)) (fun _ hk => hk.2) (.int .i64 t265)) (fun _ hk => hk.2) (.int .i64 t266)) (fun _ hk => hk.2) (.slice Ao15 t267.length co15)) (fun _ h_ => h_.1))) hb)) (zA_ (za (zp (by (with_reducible repeat (first | apply zm | apply zl | apply zn)); exact (zr (zo (p := ⟨gb271, 3, none⟩) (zo (p := ⟨gb271, 2, none⟩) (zo (p := ⟨gb271, 1, none⟩) (zo (p := ⟨gb271, 0, none⟩) (zw HO269.out BK271.out zG89) (fun _ hk => hk.2) (.int .i64 t264)) (fun _ hk => hk.2) (.int .i64 t265)) (fun _ hk => hk.2) (.int .i64 t266)) (fun _ hk => hk.2) (.slice Ao15 t267.length co15)) (fun _ h_ => h_.1))) hb)) (zA_ (za (zag (zap ho0 (zan zK117)) (zs zK141))) (zA_ (za (zq (g := gb271) (o := .cells #[.int .i64 t264, .int .i64 t265, .int .i64 t266, .slice Ao15 t267.length co15] 30 (0, 0)) (by (with_reducible repeat (first | refine zd ?_ _ | refine zg ?_ | refine zb ?_ _)); refine zu (cs := #[.int .i64 t264, .int .i64 t265, .int .i64 t266, .slice none 0 0]) ?_ 3 _ rfl; (with_reducible repeat (first | refine zd ?_ _ | refine zg ?_ | refine zb ?_ _)); refine zu (cs := #[.int .i64 t264, .int .i64 t265, .int .i64 0, .slice none 0 0]) ?_ 2 _ rfl; (with_reducible repeat (first | refine zd ?_ _ | refine zg ?_ | refine zb ?_ _)); refine zu (cs := #[.int .i64 t264, .int .i64 0, .int .i64 0, .slice none 0 0]) ?_ 1 _ rfl; (with_reducible repeat (first | refine zd ?_ _ | refine zg ?_ | refine zb ?_ _)); refine zu (cs := #[.int .i64 0, .int .i64 0, .int .i64 0, .slice none 0 0]) ?_ 0 _ rfl; (with_reducible repeat (first | refine zd ?_ _ | refine zg ?_ | refine zb ?_ _)); exact BK271.out) hb)) (za (zt zK141 hb)))))); clear HO260 HO263 HO269 BK271 HB; obtain ⟨HO260, HO263, HO269, HO274, BK271, HB⟩ := n_; (try clear hb); (try clear hk); (try clear ho0); obtain ⟨Ao17, co17, eo17⟩ := zaa HO274.out; subst eo17) | ((with_reducible refine gate_callee (f := 7) rfl ?_); refine goesL_ (some 37) rfl rfl Try.func7 zG88 rfl #[.int .i64 a0, .slice Ao17 t272.length co17] rfl zG63 ?_; (with_reducible refine (impl_CartRun.calls k a0 _ _ t272 t275 t278 t279 t280 t281 t284 _ ?side1 ?side2 A8.out).mono ?_); (case side1 => repeat (first | exact (Kd.R_reads' HO274.out).2.2 | (with_reducible refine zy ?_ _) | (with_reducible refine zz ?_ _) | (with_reducible refine zab ?_))); (case side2 => exact (Kd.R_reads' HO274.out).2.1); rintro e w18 ⟨v276, v282, rfl, ho0, ho1, hb⟩; refine ⟨_, rfl, ?_⟩; have n_ := zA_ (za (zp zK162 hb)) (zA_ (za (zaj zK163 (zam ho0) hb)) (zA_ (za (zaj zK164 (zam ho1) hb)) (zA_ (za (zp zK165 hb)) (zA_ (za (zag (zap ho0 (zan zK163)) (zs zK141))) (zA_ (za (zag (zap ho1 (zan zK164)) (zs zK141))) (zA_ (za (zq (g := gb271) (o := .cells #[.int .i64 t264, .int .i64 t265, .int .i64 t266, .slice Ao15 t267.length co15] 30 (0, 0)) zG71 hb)) (za (zt zK141 hb)))))))); clear HO260 HO263 HO269 HO274 BK271 HB; obtain ⟨HO260, HO263, HO269, HO274, HO277, HO283, BK271, HB⟩ := n_; (try clear hb); (try clear hk); (try clear ho0); (try clear ho1)) | ((with_reducible refine gate_dst (N := 11) rfl ?_); refine box_event ?hg (N := 11) ?hd (cs := #[.int .i64 0, .int .i64 0, .int .i64 0, .slice none 0 0]) (t := 30) ?hr ?_; (case hd => rfl); (case hg => rfl); (case hr => exact zH89); intro gb285 hg w19 hbox hb; have n_ := zA_ (za (zp zK162 hb)) (zA_ (za (zp zK163 hb)) (zA_ (za (zp zK164 hb)) (zA_ (za (zp zK165 hb)) (zA_ (za (zp zK166 hb)) (zA_ (za (zp zK167 hb)) (zA_ (za (zq (g := gb271) (o := .cells #[.int .i64 t264, .int .i64 t265, .int .i64 t266, .slice Ao15 t267.length co15] 30 (0, 0)) zG71 hb)) (zA_ (za (zt zK141 hb)) (zA_ (za (hbox)) (zA_ (zN1 w.heap.size hg (zs zK141)) (zA_ (zN1 w.heap.size hg (zs zK141)) (zN2 hg (zx (g := gb271) (o := .cells #[.int .i64 t264, .int .i64 t265, .int .i64 t266, .slice Ao15 t267.length co15] 30 (0, 0)) zG71)))))))))))); clear HO260 HO263 HO269 HO274 HO277 HO283 BK271 HB; obtain ⟨HO260, HO263, HO269, HO274, HO277, HO283, BK271, HB, BK285, GW285, GE285, NB271_285, NB285_271⟩ := n_; clear hb hbox hg; have hnb20 := NB285_271.out; have hnc20 := NB271_285.out; obtain ⟨hcz21_0, hcz21_1, hcz21_2, hcz21_3, hfz21_0, hfz21_1, hfz21_2, hfz21_3⟩ := zB4 BK285.out; obtain ⟨Ao22, co22, eo22⟩ := zaa HO283.out; subst eo22))
 (try simp only [Act.put, List.setIfInBounds_toArray, List.set_cons_zero, List.set_cons_succ])
 go_cut [55] (fun v55 wc => ∃ (kq : Nat) (x55_8 : Bool), v55 = .bool x55_8 ∧ Aside0 (laws_FnExactCartRun.j0 kq a0 l1 t261 t270 t272 t275 t284 x55_8 t264 t265 t266 t267 t278 t279 t280 t281 = some r) ∧ Aside0 (kq ≤ k) ∧ Aside0 (Kd.R k34 34 wc w.heap.size (fun k_ => some k_ ≠ (v276 : Value).ownBlock) v262 t261) ∧ Aside0 (Kd.R k54 54 wc w.heap.size (fun _ => True) (.slice Ao17 t272.length co17) t272) ∧ Aside0 (Kd.R k34 34 wc w.heap.size (fun k_ => some k_ ≠ (v262 : Value).ownBlock) v276 t275) ∧ Aside0 (Kd.R k36 36 wc w.heap.size (fun k_ => some k_ ≠ ((.slice Ao22 t281.length co22) : Value).ownBlock) (.slice Ao15 t267.length co15) t267) ∧ Aside0 (Kd.R k36 36 wc w.heap.size (fun k_ => some k_ ≠ ((.slice Ao15 t267.length co15) : Value).ownBlock) (.slice Ao22 t281.length co22) t281) ∧ Aside0 (wc.heap[gb271]? = some (.cells #[.int .i64 t264, .int .i64 t265, .int .i64 t266, (.slice Ao15 t267.length co15)] 30 (0, 0))) ∧ Aside0 (wc.heap[gb285]? = some (.cells #[.int .i64 t278, .int .i64 t279, .int .i64 t280, (.slice Ao22 t281.length co22)] 30 (0, 0))) ∧ Aside0 (Below w.heap.size w wc))
 case first =>
  have H := HC9.out
  clear HC9
  replace H := Option.bind_eq_some_iff.mp H
  obtain ⟨t286, A230, H⟩ := H
  replace H : (if t286 = true then ((laws_eqCarts.f k t278 t279 t280 t281 t264 t265 t266 t267).bind fun t287 => (if t287 = true then (laws_FnExactCartRun.j0 k a0 l1 t261 t270 t272 t275 t284 (t284 != t270) t264 t265 t266 t267 t278 t279 t280 t281) else (laws_FnExactCartRun.j0 k a0 l1 t261 t270 t272 t275 t284 true t264 t265 t266 t267 t278 t279 t280 t281))) else (laws_FnExactCartRun.j0 k a0 l1 t261 t270 t272 t275 t284 true t264 t265 t266 t267 t278 t279 t280 t281)) = some r := H
  have A23 := za A230
  clear A230
  by_cases c24 : t286 = true
  rotate_left
  ·replace c24 := Bool.eq_false_iff.mpr c24
   subst c24
   have H1 : (laws_FnExactCartRun.j0 k a0 l1 t261 t270 t272 t275 t284 true t264 t265 t266 t267 t278 t279 t280 t281) = some r := by rw [if_neg (show ¬ (false = true) by decide)] at H; exact H
   clear H
   have H := H1
   clear H1
   have H' := za H
   clear H
   obtain ⟨Ao41, co41, eo41⟩ := zaa HO277.out
   subst eo41
   obtain ⟨Ao42, co42, eo42⟩ := zaa HO263.out
   subst eo42
   go_wp2_with (first | ((with_reducible refine gate_callee (f := 11) rfl ?_); refine goesL_ (some 43) rfl rfl Try.func11 zG88 rfl #[.slice Ao41 t275.length co41, .slice Ao42 t261.length co42] rfl zG63 ?_; (with_reducible refine (laws_eqCartObsS.calls k _ _ t275 _ _ t261 false _ ?side1 ?side2 ?side3 ?side4 A23.out).mono ?_); (case side1 => refine (Kd.R_reads' (e := 34) (base := w.heap.size) (ok := fun k_ => (True ∧ some k_ ≠ (.slice Ao42 t261.length co42 : Value).ownBlock)) (n := t275.length) (c := co41) ?_).2.2; exact zK118); (case side2 => exact (Kd.R_reads' HO277.out).2.1); (case side3 => refine (Kd.R_reads' (e := 34) (base := w.heap.size) (ok := fun k_ => (True ∧ some k_ ≠ (.slice Ao41 t275.length co41 : Value).ownBlock)) (n := t261.length) (c := co42) ?_).2.2; exact zK119); (case side4 => exact (Kd.R_reads' HO263.out).2.1); rintro e w43 ⟨rfl, hb⟩; refine ⟨_, rfl, ?_⟩; have n_ := zA_ (za (zp zK120 hb)) (zA_ (za (zp zK119 hb)) (zA_ (za (zp zK121 hb)) (zA_ (za (zp zK122 hb)) (zA_ (za (zp zK118 hb)) (zA_ (za (zp zK123 hb)) (zA_ (za (zq (g := gb271) (o := .cells #[.int .i64 t264, .int .i64 t265, .int .i64 t266, .slice Ao15 t267.length co15] 30 (0, 0)) zK105 hb)) (zA_ (za (zq (g := gb285) (o := .cells #[.int .i64 t278, .int .i64 t279, .int .i64 t280, .slice Ao22 t281.length co22] 30 (0, 0)) zK95 hb)) (za (zt zG61 hb))))))))); clear HO260 HO263 HO269 HO274 HO277 HO283 BK271 BK285 HB; obtain ⟨HO260, HO263, HO269, HO274, HO277, HO283, BK271, BK285, HB⟩ := n_; (try clear hb); (try clear hk)))
   go_meet
   case rel => exact ⟨_, (true), zG87, H', ⟨zH90⟩, ⟨zH60⟩, ⟨zH58⟩, ⟨zH62⟩, ⟨zH61⟩, ⟨zH63⟩, ⟨zH74⟩, ⟨zH75⟩, ⟨zH36⟩⟩
  subst c24
  have H1 : ((laws_eqCarts.f k t278 t279 t280 t281 t264 t265 t266 t267).bind fun t287 => (if t287 = true then (laws_FnExactCartRun.j0 k a0 l1 t261 t270 t272 t275 t284 (t284 != t270) t264 t265 t266 t267 t278 t279 t280 t281) else (laws_FnExactCartRun.j0 k a0 l1 t261 t270 t272 t275 t284 true t264 t265 t266 t267 t278 t279 t280 t281))) = some r := by rw [if_pos rfl] at H; exact H
  clear H
  have H := H1
  clear H1
  replace H := Option.bind_eq_some_iff.mp H
  obtain ⟨t287, A250, H⟩ := H
  replace H : (if t287 = true then (laws_FnExactCartRun.j0 k a0 l1 t261 t270 t272 t275 t284 (t284 != t270) t264 t265 t266 t267 t278 t279 t280 t281) else (laws_FnExactCartRun.j0 k a0 l1 t261 t270 t272 t275 t284 true t264 t265 t266 t267 t278 t279 t280 t281)) = some r := H
  have A25 := za A250
  clear A250
  by_cases c26 : t287 = true
  ·subst c26
   have H1 : (laws_FnExactCartRun.j0 k a0 l1 t261 t270 t272 t275 t284 (t284 != t270) t264 t265 t266 t267 t278 t279 t280 t281) = some r := by rw [if_pos rfl] at H; exact H
   clear H
   have H := H1
   clear H1
   have H' := za H
   clear H
   obtain ⟨Ao27, co27, eo27⟩ := zaa HO277.out
   subst eo27
   obtain ⟨Ao28, co28, eo28⟩ := zaa HO263.out
   subst eo28
   go_wp2_with (first | ((with_reducible refine gate_callee (f := 11) rfl ?_); refine goesL_ (some 43) rfl rfl Try.func11 zG88 rfl #[.slice Ao27 t275.length co27, .slice Ao28 t261.length co28] rfl zG63 ?_; (with_reducible refine (laws_eqCartObsS.calls k _ _ t275 _ _ t261 true _ ?side1 ?side2 ?side3 ?side4 A23.out).mono ?_); (case side1 => refine (Kd.R_reads' (e := 34) (base := w.heap.size) (ok := fun k_ => (True ∧ some k_ ≠ (.slice Ao28 t261.length co28 : Value).ownBlock)) (n := t275.length) (c := co27) ?_).2.2; exact zK118); (case side2 => exact (Kd.R_reads' HO277.out).2.1); (case side3 => refine (Kd.R_reads' (e := 34) (base := w.heap.size) (ok := fun k_ => (True ∧ some k_ ≠ (.slice Ao27 t275.length co27 : Value).ownBlock)) (n := t261.length) (c := co28) ?_).2.2; exact zK119); (case side4 => exact (Kd.R_reads' HO263.out).2.1); rintro e w29 ⟨rfl, hb⟩; refine ⟨_, rfl, ?_⟩; have n_ := zA_ (za (zp zK120 hb)) (zA_ (za (zp zK119 hb)) (zA_ (za (zp zK121 hb)) (zA_ (za (zp zK122 hb)) (zA_ (za (zp zK118 hb)) (zA_ (za (zp zK123 hb)) (zA_ (za (zq (g := gb271) (o := .cells #[.int .i64 t264, .int .i64 t265, .int .i64 t266, .slice Ao15 t267.length co15] 30 (0, 0)) zK105 hb)) (zA_ (za (zq (g := gb285) (o := .cells #[.int .i64 t278, .int .i64 t279, .int .i64 t280, .slice Ao22 t281.length co22] 30 (0, 0)) zK95 hb)) (za (zt zG61 hb))))))))); clear HO260 HO263 HO269 HO274 HO277 HO283 BK271 BK285 HB; obtain ⟨HO260, HO263, HO269, HO274, HO277, HO283, BK271, BK285, HB⟩ := n_; (try clear hb); (try clear hk); have hnb30 := NB285_271.out; have hnc30 := NB271_285.out; obtain ⟨hcz31_0, hcz31_1, hcz31_2, hcz31_3, hfz31_0, hfz31_1, hfz31_2, hfz31_3⟩ := zB4 BK285.out; obtain ⟨hcz32_0, hcz32_1, hcz32_2, hcz32_3, hfz32_0, hfz32_1, hfz32_2, hfz32_3⟩ := zB4 BK271.out) | (go_at_call 12; (with_reducible refine (laws_eqCarts.calls k t278 t279 t280 _ _ t281 t264 t265 t266 _ _ t267 true _ ?side1 ?side2 ?side3 ?side4 A25.out).mono ?_); (case side1 => exact zH40); (case side2 => exact (Kd.R_reads' HO283.out).2.1); (case side3 => exact zH39); (case side4 => exact (Kd.R_reads' HO269.out).2.1); rintro e w33 ⟨rfl, hb⟩; have n_ := zA_ (za (zp zK162 hb)) (zA_ (za (zp zK163 hb)) (zA_ (za (zp zK164 hb)) (zA_ (za (zp zK165 hb)) (zA_ (za (zp zK166 hb)) (zA_ (za (zp zK167 hb)) (zA_ (za (zq (g := gb271) (o := .cells #[.int .i64 t264, .int .i64 t265, .int .i64 t266, .slice Ao15 t267.length co15] 30 (0, 0)) zG71 hb)) (zA_ (za (zq (g := gb285) (o := .cells #[.int .i64 t278, .int .i64 t279, .int .i64 t280, .slice Ao22 t281.length co22] 30 (0, 0)) zG72 hb)) (za (zt zG61 hb))))))))); clear HO260 HO263 HO269 HO274 HO277 HO283 BK271 BK285 HB; obtain ⟨HO260, HO263, HO269, HO274, HO277, HO283, BK271, BK285, HB⟩ := n_; (try clear hb); (try clear hk)))
   go_meet
   case rel => exact ⟨_, ((t284 != t270)), zG87, H', ⟨zH90⟩, ⟨zH60⟩, ⟨zH58⟩, ⟨zH62⟩, ⟨zH61⟩, ⟨zH63⟩, ⟨zH74⟩, ⟨zH75⟩, ⟨zH36⟩⟩
  replace c26 := Bool.eq_false_iff.mpr c26
  subst c26
  have H1 : (laws_FnExactCartRun.j0 k a0 l1 t261 t270 t272 t275 t284 true t264 t265 t266 t267 t278 t279 t280 t281) = some r := by rw [if_neg (show ¬ (false = true) by decide)] at H; exact H
  clear H
  have H := H1
  clear H1
  have H' := za H
  clear H
  obtain ⟨Ao34, co34, eo34⟩ := zaa HO277.out
  subst eo34
  obtain ⟨Ao35, co35, eo35⟩ := zaa HO263.out
  subst eo35
  go_wp2_with (first | ((with_reducible refine gate_callee (f := 11) rfl ?_); refine goesL_ (some 43) rfl rfl Try.func11 zG88 rfl #[.slice Ao34 t275.length co34, .slice Ao35 t261.length co35] rfl zG63 ?_; (with_reducible refine (laws_eqCartObsS.calls k _ _ t275 _ _ t261 true _ ?side1 ?side2 ?side3 ?side4 A23.out).mono ?_); (case side1 => refine (Kd.R_reads' (e := 34) (base := w.heap.size) (ok := fun k_ => (True ∧ some k_ ≠ (.slice Ao35 t261.length co35 : Value).ownBlock)) (n := t275.length) (c := co34) ?_).2.2; exact zK118); (case side2 => exact (Kd.R_reads' HO277.out).2.1); (case side3 => refine (Kd.R_reads' (e := 34) (base := w.heap.size) (ok := fun k_ => (True ∧ some k_ ≠ (.slice Ao34 t275.length co34 : Value).ownBlock)) (n := t261.length) (c := co35) ?_).2.2; exact zK119); (case side4 => exact (Kd.R_reads' HO263.out).2.1); rintro e w36 ⟨rfl, hb⟩; refine ⟨_, rfl, ?_⟩; have n_ := zA_ (za (zp zK120 hb)) (zA_ (za (zp zK119 hb)) (zA_ (za (zp zK121 hb)) (zA_ (za (zp zK122 hb)) (zA_ (za (zp zK118 hb)) (zA_ (za (zp zK123 hb)) (zA_ (za (zq (g := gb271) (o := .cells #[.int .i64 t264, .int .i64 t265, .int .i64 t266, .slice Ao15 t267.length co15] 30 (0, 0)) zK105 hb)) (zA_ (za (zq (g := gb285) (o := .cells #[.int .i64 t278, .int .i64 t279, .int .i64 t280, .slice Ao22 t281.length co22] 30 (0, 0)) zK95 hb)) (za (zt zG61 hb))))))))); clear HO260 HO263 HO269 HO274 HO277 HO283 BK271 BK285 HB; obtain ⟨HO260, HO263, HO269, HO274, HO277, HO283, BK271, BK285, HB⟩ := n_; (try clear hb); (try clear hk); have hnb37 := NB285_271.out; have hnc37 := NB271_285.out; obtain ⟨hcz38_0, hcz38_1, hcz38_2, hcz38_3, hfz38_0, hfz38_1, hfz38_2, hfz38_3⟩ := zB4 BK285.out; obtain ⟨hcz39_0, hcz39_1, hcz39_2, hcz39_3, hfz39_0, hfz39_1, hfz39_2, hfz39_3⟩ := zB4 BK271.out) | (go_at_call 12; (with_reducible refine (laws_eqCarts.calls k t278 t279 t280 _ _ t281 t264 t265 t266 _ _ t267 false _ ?side1 ?side2 ?side3 ?side4 A25.out).mono ?_); (case side1 => exact zH40); (case side2 => exact (Kd.R_reads' HO283.out).2.1); (case side3 => exact zH39); (case side4 => exact (Kd.R_reads' HO269.out).2.1); rintro e w40 ⟨rfl, hb⟩; have n_ := zA_ (za (zp zK162 hb)) (zA_ (za (zp zK163 hb)) (zA_ (za (zp zK164 hb)) (zA_ (za (zp zK165 hb)) (zA_ (za (zp zK166 hb)) (zA_ (za (zp zK167 hb)) (zA_ (za (zq (g := gb271) (o := .cells #[.int .i64 t264, .int .i64 t265, .int .i64 t266, .slice Ao15 t267.length co15] 30 (0, 0)) zG71 hb)) (zA_ (za (zq (g := gb285) (o := .cells #[.int .i64 t278, .int .i64 t279, .int .i64 t280, .slice Ao22 t281.length co22] 30 (0, 0)) zG72 hb)) (za (zt zG61 hb))))))))); clear HO260 HO263 HO269 HO274 HO277 HO283 BK271 BK285 HB; obtain ⟨HO260, HO263, HO269, HO274, HO277, HO283, BK271, BK285, HB⟩ := n_; (try clear hb); (try clear hk)))
  go_meet
  case rel => exact ⟨_, (true), zG87, H', ⟨zH90⟩, ⟨zH60⟩, ⟨zH58⟩, ⟨zH62⟩, ⟨zH61⟩, ⟨zH63⟩, ⟨zH74⟩, ⟨zH75⟩, ⟨zH36⟩⟩
 case rest =>
  clear HC9
  try clear c1
  try clear c4
  try clear c4b0
  try clear c24
  try clear c26
  try clear hcz14_0
  try clear hcz14_1
  try clear hcz14_2
  try clear hcz14_3
  try clear hcz21_0
  try clear hcz21_1
  try clear hcz21_2
  try clear hcz21_3
  try clear hcz31_0
  try clear hcz31_1
  try clear hcz31_2
  try clear hcz31_3
  try clear hcz32_0
  try clear hcz32_1
  try clear hcz32_2
  try clear hcz32_3
  try clear hcz38_0
  try clear hcz38_1
  try clear hcz38_2
  try clear hcz38_3
  try clear hcz39_0
  try clear hcz39_1
  try clear hcz39_2
  try clear hcz39_3
  try clear hfz14_0
  try clear hfz14_1
  try clear hfz14_2
  try clear hfz14_3
  try clear hfz21_0
  try clear hfz21_1
  try clear hfz21_2
  try clear hfz21_3
  try clear hfz31_0
  try clear hfz31_1
  try clear hfz31_2
  try clear hfz31_3
  try clear hfz32_0
  try clear hfz32_1
  try clear hfz32_2
  try clear hfz32_3
  try clear hfz38_0
  try clear hfz38_1
  try clear hfz38_2
  try clear hfz38_3
  try clear hfz39_0
  try clear hfz39_1
  try clear hfz39_2
  try clear hfz39_3
  obtain ⟨kq, x55_8, rfl, HA, HJ8, HO_6, HO_9, HO_10, HO_272003, HO_286003, BK271, BK285, HB⟩ := hcut
  cases kq with
  | zero => exact absurd HA.out (by simp [laws_FnExactCartRun.j0])
  | succ kj8 =>
   have H := HA.out
   clear HA
   simp only [laws_FnExactCartRun.j0] at H
   by_cases c44 : x55_8 = true
   ·subst c44
    have H1 : (some false) = some r := by rw [if_pos rfl] at H; exact H
    clear H
    have H := H1
    clear H1
    obtain rfl := Option.some.inj H
    go_wp2
    go_ret
    exact zH16
   replace c44 := Bool.eq_false_iff.mpr c44
   subst c44
   have H1 : ((laws_toCartActS.f kj8 l1).bind fun t288 => ((laws_eqCartActS.f kj8 t272 t288).bind fun t291 => (if t291 = true then ((laws_markCartActS.f kj8 t272 1).bind fun bt292 => (if bt292.1 < 0 then (laws_FnExactCartRun.j1 kj8 a0 l1 t261 t270 t275 true t264 t265 t266 t267 t278 t279 t280 t281) else ((laws_eqCartObsS.f kj8 t275 t261).bind fun t294 => (if t294 = true then ((laws_eqCarts.f kj8 t278 t279 t280 t281 t264 t265 t266 t267).bind fun t295 => (if t295 = true then (laws_FnExactCartRun.j1 kj8 a0 l1 t261 t270 t275 (t284 != t270) t264 t265 t266 t267 t278 t279 t280 t281) else (laws_FnExactCartRun.j1 kj8 a0 l1 t261 t270 t275 true t264 t265 t266 t267 t278 t279 t280 t281))) else (laws_FnExactCartRun.j1 kj8 a0 l1 t261 t270 t275 true t264 t265 t266 t267 t278 t279 t280 t281))))) else (some false)))) = some r := by rw [if_neg (show ¬ (false = true) by decide)] at H; exact H
   clear H
   have H := H1
   clear H1
   replace H := Option.bind_eq_some_iff.mp H
   obtain ⟨t288, A450, H⟩ := H
   replace H : ((laws_eqCartActS.f kj8 t272 t288).bind fun t291 => (if t291 = true then ((laws_markCartActS.f kj8 t272 1).bind fun bt292 => (if bt292.1 < 0 then (laws_FnExactCartRun.j1 kj8 a0 l1 t261 t270 t275 true t264 t265 t266 t267 t278 t279 t280 t281) else ((laws_eqCartObsS.f kj8 t275 t261).bind fun t294 => (if t294 = true then ((laws_eqCarts.f kj8 t278 t279 t280 t281 t264 t265 t266 t267).bind fun t295 => (if t295 = true then (laws_FnExactCartRun.j1 kj8 a0 l1 t261 t270 t275 (t284 != t270) t264 t265 t266 t267 t278 t279 t280 t281) else (laws_FnExactCartRun.j1 kj8 a0 l1 t261 t270 t275 true t264 t265 t266 t267 t278 t279 t280 t281))) else (laws_FnExactCartRun.j1 kj8 a0 l1 t261 t270 t275 true t264 t265 t266 t267 t278 t279 t280 t281))))) else (some false))) = some r := H
   have A45 := za A450
   clear A450
   replace H := Option.bind_eq_some_iff.mp H
   obtain ⟨t291, A460, H⟩ := H
   replace H : (if t291 = true then ((laws_markCartActS.f kj8 t272 1).bind fun bt292 => (if bt292.1 < 0 then (laws_FnExactCartRun.j1 kj8 a0 l1 t261 t270 t275 true t264 t265 t266 t267 t278 t279 t280 t281) else ((laws_eqCartObsS.f kj8 t275 t261).bind fun t294 => (if t294 = true then ((laws_eqCarts.f kj8 t278 t279 t280 t281 t264 t265 t266 t267).bind fun t295 => (if t295 = true then (laws_FnExactCartRun.j1 kj8 a0 l1 t261 t270 t275 (t284 != t270) t264 t265 t266 t267 t278 t279 t280 t281) else (laws_FnExactCartRun.j1 kj8 a0 l1 t261 t270 t275 true t264 t265 t266 t267 t278 t279 t280 t281))) else (laws_FnExactCartRun.j1 kj8 a0 l1 t261 t270 t275 true t264 t265 t266 t267 t278 t279 t280 t281))))) else (some false)) = some r := H
   have A46 := za A460
   clear A460
   by_cases c47 : t291 = true
   rotate_left
   ·replace c47 := Bool.eq_false_iff.mpr c47
    subst c47
    have H1 : (some false) = some r := by rw [if_neg (show ¬ (false = true) by decide)] at H; exact H
    clear H
    have H := H1
    clear H1
    obtain rfl := Option.some.inj H
    go_wp2_with (first | ((with_reducible refine gate_callee (f := 10) rfl ?_); refine goesL_ (some 58) rfl rfl Try.func10 zG88 rfl #[.slice A1 l1.length c1] rfl zG63 ?_; (with_reducible refine (laws_toCartActS.calls kj8 _ _ l1 t288 _ ?side1 ?side2 A45.out).mono ?_); (case side1 => exact zH49); (case side2 => exact HC1.out); rintro e w166 ⟨v289, rfl, ho0, hb⟩; refine ⟨_, rfl, ?_⟩; have n_ := zA_ (za (zp zG86 hb)) (zA_ (za (zaj zK175 (zam ho0) hb)) (zA_ (za (zp zG85 hb)) (zA_ (za (zp zG82 hb)) (zA_ (za (zp zG83 hb)) (zA_ (za (zag (zap ho0 (zan zK175)) (zs zG61))) (zA_ (za (zq (g := gb271) (o := .cells #[.int .i64 t264, .int .i64 t265, .int .i64 t266, .slice Ao15 t267.length co15] 30 (0, 0)) zG71 hb)) (zA_ (za (zq (g := gb285) (o := .cells #[.int .i64 t278, .int .i64 t279, .int .i64 t280, .slice Ao22 t281.length co22] 30 (0, 0)) zG72 hb)) (za (zt zG61 hb))))))))); clear HO_6 HO_9 HO_10 HO_272003 HO_286003 BK271 BK285 HB; obtain ⟨HO_6, HO_9, HO_10, HO_272003, HO_286003, HO290, BK271, BK285, HB⟩ := n_; (try clear hb); (try clear ho0); obtain ⟨Ao167, co167, eo167⟩ := zaa HO290.out; subst eo167) | ((with_reducible refine gate_callee (f := 13) rfl ?_); refine goesL_ (some 59) rfl rfl Try.func13 zG88 rfl #[.slice Ao17 t272.length co17, .slice Ao167 t288.length co167] rfl zG63 ?_; (with_reducible refine (laws_eqCartActS.calls kj8 _ _ t272 _ _ t288 false _ ?side1 ?side2 ?side3 ?side4 A46.out).mono ?_); (case side1 => exact zH44); (case side2 => exact (Kd.R_reads' HO_9.out).2.1); (case side3 => exact zH41); (case side4 => exact (Kd.R_reads' HO290.out).2.1); rintro e w168 ⟨rfl, hb⟩; refine ⟨_, rfl, ?_⟩; have n_ := zA_ (za (zp zG86 hb)) (zA_ (za (zp zK175 hb)) (zA_ (za (zp zG85 hb)) (zA_ (za (zp zG82 hb)) (zA_ (za (zp zG83 hb)) (zA_ (za (zp zK168 hb)) (zA_ (za (zq (g := gb271) (o := .cells #[.int .i64 t264, .int .i64 t265, .int .i64 t266, .slice Ao15 t267.length co15] 30 (0, 0)) zG71 hb)) (zA_ (za (zq (g := gb285) (o := .cells #[.int .i64 t278, .int .i64 t279, .int .i64 t280, .slice Ao22 t281.length co22] 30 (0, 0)) zG72 hb)) (za (zt zG61 hb))))))))); clear HO_6 HO_9 HO_10 HO_272003 HO_286003 HO290 BK271 BK285 HB; obtain ⟨HO_6, HO_9, HO_10, HO_272003, HO_286003, HO290, BK271, BK285, HB⟩ := n_; (try clear hb)))
    go_ret
    exact zH16

   subst c47
   have H1 : ((laws_markCartActS.f kj8 t272 1).bind fun bt292 => (if bt292.1 < 0 then (laws_FnExactCartRun.j1 kj8 a0 l1 t261 t270 t275 true t264 t265 t266 t267 t278 t279 t280 t281) else ((laws_eqCartObsS.f kj8 t275 t261).bind fun t294 => (if t294 = true then ((laws_eqCarts.f kj8 t278 t279 t280 t281 t264 t265 t266 t267).bind fun t295 => (if t295 = true then (laws_FnExactCartRun.j1 kj8 a0 l1 t261 t270 t275 (t284 != t270) t264 t265 t266 t267 t278 t279 t280 t281) else (laws_FnExactCartRun.j1 kj8 a0 l1 t261 t270 t275 true t264 t265 t266 t267 t278 t279 t280 t281))) else (laws_FnExactCartRun.j1 kj8 a0 l1 t261 t270 t275 true t264 t265 t266 t267 t278 t279 t280 t281))))) = some r := by rw [if_pos rfl] at H; exact H
   clear H
   have H := H1
   clear H1
   replace H := Option.bind_eq_some_iff.mp H
   obtain ⟨⟨t292, t293⟩, A480, H⟩ := H
   replace H : (if t292 < 0 then (laws_FnExactCartRun.j1 kj8 a0 l1 t261 t270 t275 true t264 t265 t266 t267 t278 t279 t280 t281) else ((laws_eqCartObsS.f kj8 t275 t261).bind fun t294 => (if t294 = true then ((laws_eqCarts.f kj8 t278 t279 t280 t281 t264 t265 t266 t267).bind fun t295 => (if t295 = true then (laws_FnExactCartRun.j1 kj8 a0 l1 t261 t270 t275 (t284 != t270) t264 t265 t266 t267 t278 t279 t280 t281) else (laws_FnExactCartRun.j1 kj8 a0 l1 t261 t270 t275 true t264 t265 t266 t267 t278 t279 t280 t281))) else (laws_FnExactCartRun.j1 kj8 a0 l1 t261 t270 t275 true t264 t265 t266 t267 t278 t279 t280 t281)))) = some r := H
   obtain ⟨A48, HC49⟩ := zD2 A480 H
   clear A480 H
   go_upto_region 14 with (first | ((with_reducible refine gate_callee (f := 10) rfl ?_); refine goesL_ (some 58) rfl rfl Try.func10 zG88 rfl #[.slice A1 l1.length c1] rfl zG63 ?_; (with_reducible refine (laws_toCartActS.calls kj8 _ _ l1 t288 _ ?side1 ?side2 A45.out).mono ?_); (case side1 => exact zH49); (case side2 => exact HC1.out); rintro e w50 ⟨v289, rfl, ho0, hb⟩; refine ⟨_, rfl, ?_⟩; have n_ := zA_ (za (zp zG86 hb)) (zA_ (za (zaj zK175 (zam ho0) hb)) (zA_ (za (zp zG85 hb)) (zA_ (za (zp zG82 hb)) (zA_ (za (zp zG83 hb)) (zA_ (za (zag (zap ho0 (zan zK175)) (zs zG61))) (zA_ (za (zq (g := gb271) (o := .cells #[.int .i64 t264, .int .i64 t265, .int .i64 t266, .slice Ao15 t267.length co15] 30 (0, 0)) zG71 hb)) (zA_ (za (zq (g := gb285) (o := .cells #[.int .i64 t278, .int .i64 t279, .int .i64 t280, .slice Ao22 t281.length co22] 30 (0, 0)) zG72 hb)) (za (zt zG61 hb))))))))); clear HO_6 HO_9 HO_10 HO_272003 HO_286003 BK271 BK285 HB; obtain ⟨HO_6, HO_9, HO_10, HO_272003, HO_286003, HO290, BK271, BK285, HB⟩ := n_; (try clear hb); (try clear ho0); obtain ⟨Ao51, co51, eo51⟩ := zaa HO290.out; subst eo51) | ((with_reducible refine gate_callee (f := 13) rfl ?_); refine goesL_ (some 59) rfl rfl Try.func13 zG88 rfl #[.slice Ao17 t272.length co17, .slice Ao51 t288.length co51] rfl zG63 ?_; (with_reducible refine (laws_eqCartActS.calls kj8 _ _ t272 _ _ t288 true _ ?side1 ?side2 ?side3 ?side4 A46.out).mono ?_); (case side1 => exact zH44); (case side2 => exact (Kd.R_reads' HO_9.out).2.1); (case side3 => exact zH41); (case side4 => exact (Kd.R_reads' HO290.out).2.1); rintro e w52 ⟨rfl, hb⟩; refine ⟨_, rfl, ?_⟩; have n_ := zA_ (za (zp zG86 hb)) (zA_ (za (zp zK175 hb)) (zA_ (za (zp zG85 hb)) (zA_ (za (zp zG82 hb)) (zA_ (za (zp zG83 hb)) (zA_ (za (zp zK168 hb)) (zA_ (za (zq (g := gb271) (o := .cells #[.int .i64 t264, .int .i64 t265, .int .i64 t266, .slice Ao15 t267.length co15] 30 (0, 0)) zG71 hb)) (zA_ (za (zq (g := gb285) (o := .cells #[.int .i64 t278, .int .i64 t279, .int .i64 t280, .slice Ao22 t281.length co22] 30 (0, 0)) zG72 hb)) (za (zt zG61 hb))))))))); clear HO_6 HO_9 HO_10 HO_272003 HO_286003 HO290 BK271 BK285 HB; obtain ⟨HO_6, HO_9, HO_10, HO_272003, HO_286003, HO290, BK271, BK285, HB⟩ := n_; (try clear hb)) | ((with_reducible refine gate_callee (f := 14) rfl ?_); refine goesL_ (some 63) rfl rfl Try.func14 zG88 rfl #[.slice Ao17 t272.length co17, .int .i64 1] rfl zG63 ?_; (with_reducible refine (laws_markCartActS.calls kj8 (fun k_ => some k_ = (.slice Ao17 t272.length co17 : Value).ownBlock) (.slice Ao17 t272.length co17) t272 1 t292 t293 w _ ?side1 ?side2 A48.out).mono ?_); (case side1 => exact zH38); (case side2 => exact zar rfl HO_9.out); rintro e w53 ⟨rfl, hy0, hb, hkp⟩; refine ⟨_, rfl, ?_⟩; have n_ := zA_ (za (zr (ok' := fun k_ => some k_ ≠ (v276 : Value).ownBlock) (zae ((zai HO_6.out (zah HO_9.out) zG89)) hkp (fun k_ hk_ hs_ => (hk_.2) hs_)) (fun k_ hk_ => hk_.1.1))) (zA_ (za (zas rfl hy0 (fun k_ e_ => HO_9.out.1 k_ e_))) (zA_ (za (zr (ok' := fun k_ => some k_ ≠ (v262 : Value).ownBlock) (zae ((zai HO_10.out (zah HO_9.out) zG89)) hkp (fun k_ hk_ hs_ => (hk_.2) hs_)) (fun k_ hk_ => hk_.1.1))) (zA_ (za (zr (ok' := fun k_ => some k_ ≠ (.slice Ao22 t281.length co22 : Value).ownBlock) (zae ((zai HO_272003.out (zah HO_9.out) zG89)) hkp (fun k_ hk_ hs_ => (hk_.2) hs_)) (fun k_ hk_ => hk_.1.1))) (zA_ (za (zr (ok' := fun k_ => some k_ ≠ (.slice Ao15 t267.length co15 : Value).ownBlock) (zae ((zai HO_286003.out (zah HO_9.out) zG89)) hkp (fun k_ hk_ hs_ => (hk_.2) hs_)) (fun k_ hk_ => hk_.1.1))) (zA_ (za (zad zG71 hkp (fun hs_ => (fun e_ => (zac HO_9.out BK271.out zG89) e_) hs_))) (zA_ (za (zad zG72 hkp (fun hs_ => (fun e_ => (zac HO_9.out BK285.out zG89) e_) hs_))) (zA_ (za (zr (ok' := fun k_ => some k_ ≠ (.slice Ao17 t272.length co17 : Value).ownBlock) (zae (HO290.out) hkp (fun k_ hk_ hs_ => (hk_.2) hs_)) (fun k_ hk_ => hk_.1.2))) (za (hb))))))))); clear HO_6 HO_9 HO_10 HO_272003 HO_286003 BK271 BK285 HO290 HB; obtain ⟨HO_6, HO_9, HO_10, HO_272003, HO_286003, BK271, BK285, HO290, HB⟩ := n_; (try clear hb); (try clear hkp); (try clear hy0)))
   (try simp only [Act.put, List.setIfInBounds_toArray, List.set_cons_zero, List.set_cons_succ])
   go_cut [82] (fun v82 wc => ∃ (kq : Nat) (x82_48 : Bool), v82 = .bool x82_48 ∧ Aside0 (laws_FnExactCartRun.j1 kq a0 l1 t261 t270 t275 x82_48 t264 t265 t266 t267 t278 t279 t280 t281 = some r) ∧ Aside0 (kq ≤ kj8) ∧ Aside0 (Kd.R k34 34 wc w.heap.size (fun k_ => some k_ ≠ (v276 : Value).ownBlock) v262 t261) ∧ Aside0 (Kd.R k34 34 wc w.heap.size (fun k_ => some k_ ≠ (v262 : Value).ownBlock) v276 t275) ∧ Aside0 (Kd.R k36 36 wc w.heap.size (fun k_ => some k_ ≠ ((.slice Ao22 t281.length co22) : Value).ownBlock) (.slice Ao15 t267.length co15) t267) ∧ Aside0 (Kd.R k36 36 wc w.heap.size (fun k_ => some k_ ≠ ((.slice Ao15 t267.length co15) : Value).ownBlock) (.slice Ao22 t281.length co22) t281) ∧ Aside0 (wc.heap[gb271]? = some (.cells #[.int .i64 t264, .int .i64 t265, .int .i64 t266, (.slice Ao15 t267.length co15)] 30 (0, 0))) ∧ Aside0 (wc.heap[gb285]? = some (.cells #[.int .i64 t278, .int .i64 t279, .int .i64 t280, (.slice Ao22 t281.length co22)] 30 (0, 0))) ∧ Aside0 (Below w.heap.size w wc))
   case first =>
    have H := HC49.out
    clear HC49
    by_cases c54 : t292 < 0
    ·rw [if_pos c54] at H
     have c54b0 := decide_eq_true c54
     clear c54
     (first | rw [c54b0] | (simp only [i64_w, i32_w]; rw [c54b0]) | skip)
     have H' := za H
     clear H
     go_wp2
     go_meet
     case rel => exact ⟨_, (true), zG87, H', ⟨zH88⟩, ⟨zH83⟩, ⟨zH81⟩, ⟨zH79⟩, ⟨zH80⟩, ⟨zH74⟩, ⟨zH75⟩, ⟨zH36⟩⟩
    rw [if_neg c54] at H
    have c54b0 := decide_eq_false c54
    clear c54
    (first | rw [c54b0] | (simp only [i64_w, i32_w]; rw [c54b0]) | skip)
    replace H := Option.bind_eq_some_iff.mp H
    obtain ⟨t294, A550, H⟩ := H
    replace H : (if t294 = true then ((laws_eqCarts.f kj8 t278 t279 t280 t281 t264 t265 t266 t267).bind fun t295 => (if t295 = true then (laws_FnExactCartRun.j1 kj8 a0 l1 t261 t270 t275 (t284 != t270) t264 t265 t266 t267 t278 t279 t280 t281) else (laws_FnExactCartRun.j1 kj8 a0 l1 t261 t270 t275 true t264 t265 t266 t267 t278 t279 t280 t281))) else (laws_FnExactCartRun.j1 kj8 a0 l1 t261 t270 t275 true t264 t265 t266 t267 t278 t279 t280 t281)) = some r := H
    have A55 := za A550
    clear A550
    by_cases c56 : t294 = true
    rotate_left
    ·replace c56 := Bool.eq_false_iff.mpr c56
     subst c56
     have H1 : (laws_FnExactCartRun.j1 kj8 a0 l1 t261 t270 t275 true t264 t265 t266 t267 t278 t279 t280 t281) = some r := by rw [if_neg (show ¬ (false = true) by decide)] at H; exact H
     clear H
     have H := H1
     clear H1
     have H' := za H
     clear H
     obtain ⟨Ao73, co73, eo73⟩ := zaa HO_10.out
     subst eo73
     obtain ⟨Ao74, co74, eo74⟩ := zaa HO_6.out
     subst eo74
     go_wp2_with (first | (go_at_call 11; (with_reducible refine (laws_eqCartObsS.calls kj8 _ _ t275 _ _ t261 false _ ?side1 ?side2 ?side3 ?side4 A55.out).mono ?_); (case side1 => exact zH43); (case side2 => exact zH92); (case side3 => exact zH45); (case side4 => exact zH93); rintro e w75 ⟨rfl, hb⟩; have n_ := zA_ (za (zp zG86 hb)) (zA_ (za (zp zK175 hb)) (zA_ (za (zp zG85 hb)) (zA_ (za (zp zG82 hb)) (zA_ (za (zp zG83 hb)) (zA_ (za (zp zK168 hb)) (zA_ (za (zq (g := gb271) (o := .cells #[.int .i64 t264, .int .i64 t265, .int .i64 t266, .slice Ao15 t267.length co15] 30 (0, 0)) zG71 hb)) (zA_ (za (zq (g := gb285) (o := .cells #[.int .i64 t278, .int .i64 t279, .int .i64 t280, .slice Ao22 t281.length co22] 30 (0, 0)) zG72 hb)) (za (zt zG61 hb))))))))); clear HO_6 HO_9 HO_10 HO_272003 HO_286003 HO290 BK271 BK285 HB; obtain ⟨HO_6, HO_9, HO_10, HO_272003, HO_286003, HO290, BK271, BK285, HB⟩ := n_; (try clear hb)))
     go_meet
     case rel => exact ⟨_, (true), zG87, H', ⟨zH88⟩, ⟨zH83⟩, ⟨zH81⟩, ⟨zH79⟩, ⟨zH80⟩, ⟨zH74⟩, ⟨zH75⟩, ⟨zH36⟩⟩
    subst c56
    have H1 : ((laws_eqCarts.f kj8 t278 t279 t280 t281 t264 t265 t266 t267).bind fun t295 => (if t295 = true then (laws_FnExactCartRun.j1 kj8 a0 l1 t261 t270 t275 (t284 != t270) t264 t265 t266 t267 t278 t279 t280 t281) else (laws_FnExactCartRun.j1 kj8 a0 l1 t261 t270 t275 true t264 t265 t266 t267 t278 t279 t280 t281))) = some r := by rw [if_pos rfl] at H; exact H
    clear H
    have H := H1
    clear H1
    replace H := Option.bind_eq_some_iff.mp H
    obtain ⟨t295, A570, H⟩ := H
    replace H : (if t295 = true then (laws_FnExactCartRun.j1 kj8 a0 l1 t261 t270 t275 (t284 != t270) t264 t265 t266 t267 t278 t279 t280 t281) else (laws_FnExactCartRun.j1 kj8 a0 l1 t261 t270 t275 true t264 t265 t266 t267 t278 t279 t280 t281)) = some r := H
    have A57 := za A570
    clear A570
    by_cases c58 : t295 = true
    ·subst c58
     have H1 : (laws_FnExactCartRun.j1 kj8 a0 l1 t261 t270 t275 (t284 != t270) t264 t265 t266 t267 t278 t279 t280 t281) = some r := by rw [if_pos rfl] at H; exact H
     clear H
     have H := H1
     clear H1
     have H' := za H
     clear H
     obtain ⟨Ao59, co59, eo59⟩ := zaa HO_10.out
     subst eo59
     obtain ⟨Ao60, co60, eo60⟩ := zaa HO_6.out
     subst eo60
     go_wp2_with (first | (go_at_call 11; (with_reducible refine (laws_eqCartObsS.calls kj8 _ _ t275 _ _ t261 true _ ?side1 ?side2 ?side3 ?side4 A55.out).mono ?_); (case side1 => exact zH43); (case side2 => exact zH92); (case side3 => exact zH45); (case side4 => exact zH93); rintro e w61 ⟨rfl, hb⟩; have n_ := zA_ (za (zp zG86 hb)) (zA_ (za (zp zK175 hb)) (zA_ (za (zp zG85 hb)) (zA_ (za (zp zG82 hb)) (zA_ (za (zp zG83 hb)) (zA_ (za (zp zK168 hb)) (zA_ (za (zq (g := gb271) (o := .cells #[.int .i64 t264, .int .i64 t265, .int .i64 t266, .slice Ao15 t267.length co15] 30 (0, 0)) zG71 hb)) (zA_ (za (zq (g := gb285) (o := .cells #[.int .i64 t278, .int .i64 t279, .int .i64 t280, .slice Ao22 t281.length co22] 30 (0, 0)) zG72 hb)) (za (zt zG61 hb))))))))); clear HO_6 HO_9 HO_10 HO_272003 HO_286003 HO290 BK271 BK285 HB; obtain ⟨HO_6, HO_9, HO_10, HO_272003, HO_286003, HO290, BK271, BK285, HB⟩ := n_; (try clear hb); have hnb62 := NB285_271.out; have hnc62 := NB271_285.out; obtain ⟨hcz63_0, hcz63_1, hcz63_2, hcz63_3, hfz63_0, hfz63_1, hfz63_2, hfz63_3⟩ := zB4 BK285.out; obtain ⟨hcz64_0, hcz64_1, hcz64_2, hcz64_3, hfz64_0, hfz64_1, hfz64_2, hfz64_3⟩ := zB4 BK271.out) | (go_at_call 12; (with_reducible refine (laws_eqCarts.calls kj8 t278 t279 t280 _ _ t281 t264 t265 t266 _ _ t267 true _ ?side1 ?side2 ?side3 ?side4 A57.out).mono ?_); (case side1 => exact zH35); (case side2 => exact zH91); (case side3 => exact zH33); (case side4 => exact (Kd.R_reads' HO_272003.out).2.1); rintro e w65 ⟨rfl, hb⟩; have n_ := zA_ (za (zp zG86 hb)) (zA_ (za (zp zK175 hb)) (zA_ (za (zp zG85 hb)) (zA_ (za (zp zG82 hb)) (zA_ (za (zp zG83 hb)) (zA_ (za (zp zK168 hb)) (zA_ (za (zq (g := gb271) (o := .cells #[.int .i64 t264, .int .i64 t265, .int .i64 t266, .slice Ao15 t267.length co15] 30 (0, 0)) zG71 hb)) (zA_ (za (zq (g := gb285) (o := .cells #[.int .i64 t278, .int .i64 t279, .int .i64 t280, .slice Ao22 t281.length co22] 30 (0, 0)) zG72 hb)) (za (zt zG61 hb))))))))); clear HO_6 HO_9 HO_10 HO_272003 HO_286003 HO290 BK271 BK285 HB; obtain ⟨HO_6, HO_9, HO_10, HO_272003, HO_286003, HO290, BK271, BK285, HB⟩ := n_; (try clear hb)))
     go_meet
     case rel => exact ⟨_, ((t284 != t270)), zG87, H', ⟨zH88⟩, ⟨zH83⟩, ⟨zH81⟩, ⟨zH79⟩, ⟨zH80⟩, ⟨zH74⟩, ⟨zH75⟩, ⟨zH36⟩⟩
    replace c58 := Bool.eq_false_iff.mpr c58
    subst c58
    have H1 : (laws_FnExactCartRun.j1 kj8 a0 l1 t261 t270 t275 true t264 t265 t266 t267 t278 t279 t280 t281) = some r := by rw [if_neg (show ¬ (false = true) by decide)] at H; exact H
    clear H
    have H := H1
    clear H1
    have H' := za H
    clear H
    obtain ⟨Ao66, co66, eo66⟩ := zaa HO_10.out
    subst eo66
    obtain ⟨Ao67, co67, eo67⟩ := zaa HO_6.out
    subst eo67
    go_wp2_with (first | (go_at_call 11; (with_reducible refine (laws_eqCartObsS.calls kj8 _ _ t275 _ _ t261 true _ ?side1 ?side2 ?side3 ?side4 A55.out).mono ?_); (case side1 => exact zH43); (case side2 => exact zH92); (case side3 => exact zH45); (case side4 => exact zH93); rintro e w68 ⟨rfl, hb⟩; have n_ := zA_ (za (zp zG86 hb)) (zA_ (za (zp zK175 hb)) (zA_ (za (zp zG85 hb)) (zA_ (za (zp zG82 hb)) (zA_ (za (zp zG83 hb)) (zA_ (za (zp zK168 hb)) (zA_ (za (zq (g := gb271) (o := .cells #[.int .i64 t264, .int .i64 t265, .int .i64 t266, .slice Ao15 t267.length co15] 30 (0, 0)) zG71 hb)) (zA_ (za (zq (g := gb285) (o := .cells #[.int .i64 t278, .int .i64 t279, .int .i64 t280, .slice Ao22 t281.length co22] 30 (0, 0)) zG72 hb)) (za (zt zG61 hb))))))))); clear HO_6 HO_9 HO_10 HO_272003 HO_286003 HO290 BK271 BK285 HB; obtain ⟨HO_6, HO_9, HO_10, HO_272003, HO_286003, HO290, BK271, BK285, HB⟩ := n_; (try clear hb); have hnb69 := NB285_271.out; have hnc69 := NB271_285.out; obtain ⟨hcz70_0, hcz70_1, hcz70_2, hcz70_3, hfz70_0, hfz70_1, hfz70_2, hfz70_3⟩ := zB4 BK285.out; obtain ⟨hcz71_0, hcz71_1, hcz71_2, hcz71_3, hfz71_0, hfz71_1, hfz71_2, hfz71_3⟩ := zB4 BK271.out) | (go_at_call 12; (with_reducible refine (laws_eqCarts.calls kj8 t278 t279 t280 _ _ t281 t264 t265 t266 _ _ t267 false _ ?side1 ?side2 ?side3 ?side4 A57.out).mono ?_); (case side1 => exact zH35); (case side2 => exact zH91); (case side3 => exact zH33); (case side4 => exact (Kd.R_reads' HO_272003.out).2.1); rintro e w72 ⟨rfl, hb⟩; have n_ := zA_ (za (zp zG86 hb)) (zA_ (za (zp zK175 hb)) (zA_ (za (zp zG85 hb)) (zA_ (za (zp zG82 hb)) (zA_ (za (zp zG83 hb)) (zA_ (za (zp zK168 hb)) (zA_ (za (zq (g := gb271) (o := .cells #[.int .i64 t264, .int .i64 t265, .int .i64 t266, .slice Ao15 t267.length co15] 30 (0, 0)) zG71 hb)) (zA_ (za (zq (g := gb285) (o := .cells #[.int .i64 t278, .int .i64 t279, .int .i64 t280, .slice Ao22 t281.length co22] 30 (0, 0)) zG72 hb)) (za (zt zG61 hb))))))))); clear HO_6 HO_9 HO_10 HO_272003 HO_286003 HO290 BK271 BK285 HB; obtain ⟨HO_6, HO_9, HO_10, HO_272003, HO_286003, HO290, BK271, BK285, HB⟩ := n_; (try clear hb)))
    go_meet
    case rel => exact ⟨_, (true), zG87, H', ⟨zH88⟩, ⟨zH83⟩, ⟨zH81⟩, ⟨zH79⟩, ⟨zH80⟩, ⟨zH74⟩, ⟨zH75⟩, ⟨zH36⟩⟩
   case rest =>
    clear HC49
    try clear c1
    try clear c4
    try clear c4b0
    try clear c24
    try clear c26
    try clear c44
    try clear c47
    try clear c54
    try clear c54b0
    try clear c56
    try clear c58
    try clear hcz14_0
    try clear hcz14_1
    try clear hcz14_2
    try clear hcz14_3
    try clear hcz21_0
    try clear hcz21_1
    try clear hcz21_2
    try clear hcz21_3
    try clear hcz31_0
    try clear hcz31_1
    try clear hcz31_2
    try clear hcz31_3
    try clear hcz32_0
    try clear hcz32_1
    try clear hcz32_2
    try clear hcz32_3
    try clear hcz38_0
    try clear hcz38_1
    try clear hcz38_2
    try clear hcz38_3
    try clear hcz39_0
    try clear hcz39_1
    try clear hcz39_2
    try clear hcz39_3
    try clear hcz63_0
    try clear hcz63_1
    try clear hcz63_2
    try clear hcz63_3
    try clear hcz64_0
    try clear hcz64_1
    try clear hcz64_2
    try clear hcz64_3
    try clear hcz70_0
    try clear hcz70_1
    try clear hcz70_2
    try clear hcz70_3
    try clear hcz71_0
    try clear hcz71_1
    try clear hcz71_2
    try clear hcz71_3
    try clear hfz14_0
    try clear hfz14_1
    try clear hfz14_2
    try clear hfz14_3
    try clear hfz21_0
    try clear hfz21_1
    try clear hfz21_2
    try clear hfz21_3
    try clear hfz31_0
    try clear hfz31_1
    try clear hfz31_2
    try clear hfz31_3
    try clear hfz32_0
    try clear hfz32_1
    try clear hfz32_2
    try clear hfz32_3
    try clear hfz38_0
    try clear hfz38_1
    try clear hfz38_2
    try clear hfz38_3
    try clear hfz39_0
    try clear hfz39_1
    try clear hfz39_2
    try clear hfz39_3
    try clear hfz63_0
    try clear hfz63_1
    try clear hfz63_2
    try clear hfz63_3
    try clear hfz64_0
    try clear hfz64_1
    try clear hfz64_2
    try clear hfz64_3
    try clear hfz70_0
    try clear hfz70_1
    try clear hfz70_2
    try clear hfz70_3
    try clear hfz71_0
    try clear hfz71_1
    try clear hfz71_2
    try clear hfz71_3
    obtain ⟨kq, x82_48, rfl, HA, HJ48, HO_6, HO_10, HO_272003, HO_286003, BK271, BK285, HB⟩ := hcut
    cases kq with
    | zero => exact absurd HA.out (by simp [laws_FnExactCartRun.j1])
    | succ kj48 =>
     have H := HA.out
     clear HA
     simp only [laws_FnExactCartRun.j1] at H
     by_cases c76 : x82_48 = true
     ·subst c76
      have H1 : (some false) = some r := by rw [if_pos rfl] at H; exact H
      clear H
      have H := H1
      clear H1
      obtain rfl := Option.some.inj H
      go_wp2
      go_ret
      exact zH16
     replace c76 := Bool.eq_false_iff.mpr c76
     subst c76
     have H1 : ((laws_markCartObsS.f kj48 t275 1).bind fun bt296 => ((laws_markCarts.f kj48 t278 t279 t280 t281 bt296.1).bind fun bt298 => ((laws_heldCartObsS.f kj48 bt296.2 1).bind fun t300 => (if t300 < 0 then (some false) else ((laws_heldCarts.f kj48 t278 t279 t280 bt298.2 t300).bind fun t301 => (if t301 < 0 then (some false) else (if t301 = bt298.1 then ((laws_toCartActS.f kj48 l1).bind fun t302 => ((impl_CartRun.f kj48 a0 t302).bind fun bt305 => ((laws_eqCartObsS.f kj48 bt305.1 t261).bind fun t316 => (if t316 = true then ((laws_eqCarts.f kj48 bt305.2.1 bt305.2.2.1 bt305.2.2.2.1 bt305.2.2.2.2.1 t264 t265 t266 t267).bind fun t317 => (if t317 = true then (laws_FnExactCartRun.j2 kj48 bt296.2 bt298.1 (bt305.2.2.2.2.2 != t270) t278 t279 t280 bt298.2) else (laws_FnExactCartRun.j2 kj48 bt296.2 bt298.1 true t278 t279 t280 bt298.2))) else (laws_FnExactCartRun.j2 kj48 bt296.2 bt298.1 true t278 t279 t280 bt298.2))))) else (some false)))))))) = some r := by rw [if_neg (show ¬ (false = true) by decide)] at H; exact H
     clear H
     have H := H1
     clear H1
     replace H := Option.bind_eq_some_iff.mp H
     obtain ⟨⟨t296, t297⟩, A770, H⟩ := H
     replace H : ((laws_markCarts.f kj48 t278 t279 t280 t281 t296).bind fun bt298 => ((laws_heldCartObsS.f kj48 t297 1).bind fun t300 => (if t300 < 0 then (some false) else ((laws_heldCarts.f kj48 t278 t279 t280 bt298.2 t300).bind fun t301 => (if t301 < 0 then (some false) else (if t301 = bt298.1 then ((laws_toCartActS.f kj48 l1).bind fun t302 => ((impl_CartRun.f kj48 a0 t302).bind fun bt305 => ((laws_eqCartObsS.f kj48 bt305.1 t261).bind fun t316 => (if t316 = true then ((laws_eqCarts.f kj48 bt305.2.1 bt305.2.2.1 bt305.2.2.2.1 bt305.2.2.2.2.1 t264 t265 t266 t267).bind fun t317 => (if t317 = true then (laws_FnExactCartRun.j2 kj48 t297 bt298.1 (bt305.2.2.2.2.2 != t270) t278 t279 t280 bt298.2) else (laws_FnExactCartRun.j2 kj48 t297 bt298.1 true t278 t279 t280 bt298.2))) else (laws_FnExactCartRun.j2 kj48 t297 bt298.1 true t278 t279 t280 bt298.2))))) else (some false))))))) = some r := H
     have A77 := za A770
     clear A770
     replace H := Option.bind_eq_some_iff.mp H
     obtain ⟨⟨t298, t299⟩, A780, H⟩ := H
     replace H : ((laws_heldCartObsS.f kj48 t297 1).bind fun t300 => (if t300 < 0 then (some false) else ((laws_heldCarts.f kj48 t278 t279 t280 t299 t300).bind fun t301 => (if t301 < 0 then (some false) else (if t301 = t298 then ((laws_toCartActS.f kj48 l1).bind fun t302 => ((impl_CartRun.f kj48 a0 t302).bind fun bt305 => ((laws_eqCartObsS.f kj48 bt305.1 t261).bind fun t316 => (if t316 = true then ((laws_eqCarts.f kj48 bt305.2.1 bt305.2.2.1 bt305.2.2.2.1 bt305.2.2.2.2.1 t264 t265 t266 t267).bind fun t317 => (if t317 = true then (laws_FnExactCartRun.j2 kj48 t297 t298 (bt305.2.2.2.2.2 != t270) t278 t279 t280 t299) else (laws_FnExactCartRun.j2 kj48 t297 t298 true t278 t279 t280 t299))) else (laws_FnExactCartRun.j2 kj48 t297 t298 true t278 t279 t280 t299))))) else (some false)))))) = some r := H
     have A78 := za A780
     clear A780
     replace H := Option.bind_eq_some_iff.mp H
     obtain ⟨t300, A790, H⟩ := H
     replace H : (if t300 < 0 then (some false) else ((laws_heldCarts.f kj48 t278 t279 t280 t299 t300).bind fun t301 => (if t301 < 0 then (some false) else (if t301 = t298 then ((laws_toCartActS.f kj48 l1).bind fun t302 => ((impl_CartRun.f kj48 a0 t302).bind fun bt305 => ((laws_eqCartObsS.f kj48 bt305.1 t261).bind fun t316 => (if t316 = true then ((laws_eqCarts.f kj48 bt305.2.1 bt305.2.2.1 bt305.2.2.2.1 bt305.2.2.2.2.1 t264 t265 t266 t267).bind fun t317 => (if t317 = true then (laws_FnExactCartRun.j2 kj48 t297 t298 (bt305.2.2.2.2.2 != t270) t278 t279 t280 t299) else (laws_FnExactCartRun.j2 kj48 t297 t298 true t278 t279 t280 t299))) else (laws_FnExactCartRun.j2 kj48 t297 t298 true t278 t279 t280 t299))))) else (some false))))) = some r := H
     have A79 := za A790
     clear A790
     by_cases c80 : t300 < 0
     ·rw [if_pos c80] at H
      have c80b0 := decide_eq_true c80
      clear c80
      obtain rfl := Option.some.inj H
      obtain ⟨Ao81, co81, eo81⟩ := zaa HO_10.out
      subst eo81
      go_wp2_with (first | ((with_reducible refine gate_callee (f := 15) rfl ?_); refine goesL_ (some 85) rfl rfl Try.func15 zG88 rfl #[.slice Ao81 t275.length co81, .int .i64 1] rfl zG63 ?_; (with_reducible refine (laws_markCartObsS.calls kj48 (fun k_ => some k_ = (.slice Ao81 t275.length co81 : Value).ownBlock) (.slice Ao81 t275.length co81) t275 1 t296 t297 w _ ?side1 ?side2 A77.out).mono ?_); (case side1 => exact zH38); (case side2 => exact zar rfl HO_10.out); rintro e w82 ⟨rfl, hy0, hb, hkp⟩; refine ⟨_, rfl, ?_⟩; have n_ := zA_ (za (zr (ok' := fun k_ => some k_ ≠ (.slice Ao81 t275.length co81 : Value).ownBlock) (zae (HO_6.out) hkp (fun k_ hk_ hs_ => (hk_) hs_)) (fun k_ hk_ => hk_.1))) (zA_ (za (zas rfl hy0 (fun k_ e_ => HO_10.out.1 k_ e_))) (zA_ (za (zr (ok' := fun k_ => some k_ ≠ (.slice Ao22 t281.length co22 : Value).ownBlock) (zae ((zai HO_272003.out (zah HO_10.out) zG89)) hkp (fun k_ hk_ hs_ => (hk_.2) hs_)) (fun k_ hk_ => hk_.1.1))) (zA_ (za (zr (ok' := fun k_ => some k_ ≠ (.slice Ao15 t267.length co15 : Value).ownBlock) (zae ((zai HO_286003.out (zah HO_10.out) zG89)) hkp (fun k_ hk_ hs_ => (hk_.2) hs_)) (fun k_ hk_ => hk_.1.1))) (zA_ (za (zad zG71 hkp (fun hs_ => (fun e_ => (zac HO_10.out BK271.out zG89) e_) hs_))) (zA_ (za (zad zG72 hkp (fun hs_ => (fun e_ => (zac HO_10.out BK285.out zG89) e_) hs_))) (za (hb))))))); clear HO_6 HO_10 HO_272003 HO_286003 BK271 BK285 HB; obtain ⟨HO_6, HO_10, HO_272003, HO_286003, BK271, BK285, HB⟩ := n_; (try clear hb); (try clear hkp); (try clear hy0); have hnb83 := NB285_271.out; have hnc83 := NB271_285.out; obtain ⟨hcz84_0, hcz84_1, hcz84_2, hcz84_3, hfz84_0, hfz84_1, hfz84_2, hfz84_3⟩ := zB4 BK285.out) | ((with_reducible refine gate_callee (f := 16) rfl ?_); refine goesL_ (some 88) rfl rfl Try.func16 zG88 rfl #[.agg #[.int .i64 t278, .int .i64 t279, .int .i64 t280, .slice Ao22 t281.length co22], .int .i64 t296] rfl zG63 ?_; (with_reducible refine (laws_markCarts.calls kj48 t278 t279 t280 (fun k_ => some k_ = (.slice Ao22 t281.length co22 : Value).ownBlock) (.slice Ao22 t281.length co22) t281 t296 t298 t299 w _ ?side1 ?side2 A78.out).mono ?_); (case side1 => exact zH38); (case side2 => exact zar rfl HO_286003.out); rintro e w85 ⟨rfl, hy0, hb, hkp⟩; refine ⟨_, rfl, ?_⟩; have n_ := zA_ (za (zr (ok' := fun k_ => some k_ ≠ (.slice Ao81 t275.length co81 : Value).ownBlock) (zae ((zai HO_6.out (zah HO_286003.out) zG89)) hkp (fun k_ hk_ hs_ => (hk_.2) hs_)) (fun k_ hk_ => hk_.1.1))) (zA_ (za (zr (ok' := fun k_ => some k_ ≠ (v262 : Value).ownBlock) (zae ((zai HO_10.out (zah HO_286003.out) zG89)) hkp (fun k_ hk_ hs_ => (hk_.2) hs_)) (fun k_ hk_ => hk_.1.1))) (zA_ (za (zr (ok' := fun k_ => some k_ ≠ (.slice Ao22 t281.length co22 : Value).ownBlock) (zae (HO_272003.out) hkp (fun k_ hk_ hs_ => (hk_) hs_)) (fun k_ hk_ => hk_.1))) (zA_ (za (zas rfl hy0 (fun k_ e_ => HO_286003.out.1 k_ e_))) (zA_ (za (zad zG71 hkp (fun hs_ => (fun e_ => (zac HO_286003.out BK271.out zG89) e_) hs_))) (zA_ (za (zad zG72 hkp (fun hs_ => (fun e_ => (zac HO_286003.out BK285.out zG89) e_) hs_))) (za (hb))))))); clear HO_6 HO_10 HO_272003 HO_286003 BK271 BK285 HB; obtain ⟨HO_6, HO_10, HO_272003, HO_286003, BK271, BK285, HB⟩ := n_; (try clear hb); (try clear hkp); (try clear hy0)) | ((with_reducible refine gate_callee (f := 17) rfl ?_); refine goesL_ (some 91) rfl rfl Try.func17 zG88 rfl #[.slice Ao81 t297.length co81, .int .i64 1] rfl zK127 ?_; (with_reducible refine (laws_heldCartObsS.calls kj48 _ _ t297 1 t300 _ ?side1 ?side2 A79.out).mono ?_); (case side1 => exact zH43); (case side2 => exact zH64); rintro e w' ⟨rfl, ⟨nd, rfl⟩⟩; refine ⟨_, rfl, ?_⟩))
      go_ret
      exact zH16
     rw [if_neg c80] at H
     have c80b0 := decide_eq_false c80
     clear c80
     replace H := Option.bind_eq_some_iff.mp H
     obtain ⟨t301, A860, H⟩ := H
     replace H : (if t301 < 0 then (some false) else (if t301 = t298 then ((laws_toCartActS.f kj48 l1).bind fun t302 => ((impl_CartRun.f kj48 a0 t302).bind fun bt305 => ((laws_eqCartObsS.f kj48 bt305.1 t261).bind fun t316 => (if t316 = true then ((laws_eqCarts.f kj48 bt305.2.1 bt305.2.2.1 bt305.2.2.2.1 bt305.2.2.2.2.1 t264 t265 t266 t267).bind fun t317 => (if t317 = true then (laws_FnExactCartRun.j2 kj48 t297 t298 (bt305.2.2.2.2.2 != t270) t278 t279 t280 t299) else (laws_FnExactCartRun.j2 kj48 t297 t298 true t278 t279 t280 t299))) else (laws_FnExactCartRun.j2 kj48 t297 t298 true t278 t279 t280 t299))))) else (some false))) = some r := H
     have A86 := za A860
     clear A860
     by_cases c87 : t301 < 0
     ·rw [if_pos c87] at H
      have c87b0 := decide_eq_true c87
      clear c87
      obtain rfl := Option.some.inj H
      obtain ⟨Ao88, co88, eo88⟩ := zaa HO_10.out
      subst eo88
      go_wp2_with (first | ((with_reducible refine gate_callee (f := 15) rfl ?_); refine goesL_ (some 85) rfl rfl Try.func15 zG88 rfl #[.slice Ao88 t275.length co88, .int .i64 1] rfl zG63 ?_; (with_reducible refine (laws_markCartObsS.calls kj48 (fun k_ => some k_ = (.slice Ao88 t275.length co88 : Value).ownBlock) (.slice Ao88 t275.length co88) t275 1 t296 t297 w _ ?side1 ?side2 A77.out).mono ?_); (case side1 => exact zH38); (case side2 => exact zar rfl HO_10.out); rintro e w89 ⟨rfl, hy0, hb, hkp⟩; refine ⟨_, rfl, ?_⟩; have n_ := zA_ (za (zr (ok' := fun k_ => some k_ ≠ (.slice Ao88 t275.length co88 : Value).ownBlock) (zae (HO_6.out) hkp (fun k_ hk_ hs_ => (hk_) hs_)) (fun k_ hk_ => hk_.1))) (zA_ (za (zas rfl hy0 (fun k_ e_ => HO_10.out.1 k_ e_))) (zA_ (za (zr (ok' := fun k_ => some k_ ≠ (.slice Ao22 t281.length co22 : Value).ownBlock) (zae ((zai HO_272003.out (zah HO_10.out) zG89)) hkp (fun k_ hk_ hs_ => (hk_.2) hs_)) (fun k_ hk_ => hk_.1.1))) (zA_ (za (zr (ok' := fun k_ => some k_ ≠ (.slice Ao15 t267.length co15 : Value).ownBlock) (zae ((zai HO_286003.out (zah HO_10.out) zG89)) hkp (fun k_ hk_ hs_ => (hk_.2) hs_)) (fun k_ hk_ => hk_.1.1))) (zA_ (za (zad zG71 hkp (fun hs_ => (fun e_ => (zac HO_10.out BK271.out zG89) e_) hs_))) (zA_ (za (zad zG72 hkp (fun hs_ => (fun e_ => (zac HO_10.out BK285.out zG89) e_) hs_))) (za (hb))))))); clear HO_6 HO_10 HO_272003 HO_286003 BK271 BK285 HB; obtain ⟨HO_6, HO_10, HO_272003, HO_286003, BK271, BK285, HB⟩ := n_; (try clear hb); (try clear hkp); (try clear hy0); have hnb90 := NB285_271.out; have hnc90 := NB271_285.out; obtain ⟨hcz91_0, hcz91_1, hcz91_2, hcz91_3, hfz91_0, hfz91_1, hfz91_2, hfz91_3⟩ := zB4 BK285.out) | ((with_reducible refine gate_callee (f := 16) rfl ?_); refine goesL_ (some 88) rfl rfl Try.func16 zG88 rfl #[.agg #[.int .i64 t278, .int .i64 t279, .int .i64 t280, .slice Ao22 t281.length co22], .int .i64 t296] rfl zG63 ?_; (with_reducible refine (laws_markCarts.calls kj48 t278 t279 t280 (fun k_ => some k_ = (.slice Ao22 t281.length co22 : Value).ownBlock) (.slice Ao22 t281.length co22) t281 t296 t298 t299 w _ ?side1 ?side2 A78.out).mono ?_); (case side1 => exact zH38); (case side2 => exact zar rfl HO_286003.out); rintro e w92 ⟨rfl, hy0, hb, hkp⟩; refine ⟨_, rfl, ?_⟩; have n_ := zA_ (za (zr (ok' := fun k_ => some k_ ≠ (.slice Ao88 t275.length co88 : Value).ownBlock) (zae ((zai HO_6.out (zah HO_286003.out) zG89)) hkp (fun k_ hk_ hs_ => (hk_.2) hs_)) (fun k_ hk_ => hk_.1.1))) (zA_ (za (zr (ok' := fun k_ => some k_ ≠ (v262 : Value).ownBlock) (zae ((zai HO_10.out (zah HO_286003.out) zG89)) hkp (fun k_ hk_ hs_ => (hk_.2) hs_)) (fun k_ hk_ => hk_.1.1))) (zA_ (za (zr (ok' := fun k_ => some k_ ≠ (.slice Ao22 t281.length co22 : Value).ownBlock) (zae (HO_272003.out) hkp (fun k_ hk_ hs_ => (hk_) hs_)) (fun k_ hk_ => hk_.1))) (zA_ (za (zas rfl hy0 (fun k_ e_ => HO_286003.out.1 k_ e_))) (zA_ (za (zad zG71 hkp (fun hs_ => (fun e_ => (zac HO_286003.out BK271.out zG89) e_) hs_))) (zA_ (za (zad zG72 hkp (fun hs_ => (fun e_ => (zac HO_286003.out BK285.out zG89) e_) hs_))) (za (hb))))))); clear HO_6 HO_10 HO_272003 HO_286003 BK271 BK285 HB; obtain ⟨HO_6, HO_10, HO_272003, HO_286003, BK271, BK285, HB⟩ := n_; (try clear hb); (try clear hkp); (try clear hy0)) | ((with_reducible refine gate_callee (f := 17) rfl ?_); refine goesL_ (some 91) rfl rfl Try.func17 zG88 rfl #[.slice Ao88 t297.length co88, .int .i64 1] rfl zK127 ?_; (with_reducible refine (laws_heldCartObsS.calls kj48 _ _ t297 1 t300 _ ?side1 ?side2 A79.out).mono ?_); (case side1 => exact zH43); (case side2 => exact zH64); rintro e w' ⟨rfl, ⟨nd, rfl⟩⟩; refine ⟨_, rfl, ?_⟩; obtain ⟨hcz93_0, hcz93_1, hcz93_2, hcz93_3, hfz93_0, hfz93_1, hfz93_2, hfz93_3⟩ := zB4 BK285.out) | ((with_reducible refine gate_callee (f := 18) rfl ?_); refine goesL_ (some 96) rfl rfl Try.func18 zG88 rfl #[.agg #[.int .i64 t278, .int .i64 t279, .int .i64 t280, .slice Ao22 t299.length co22], .int .i64 t300] rfl zK126 ?_; (with_reducible refine (laws_heldCarts.calls kj48 t278 t279 t280 _ _ t299 t300 t301 _ ?side1 ?side2 A86.out).mono ?_); (case side1 => exact zH35); (case side2 => exact zH57); rintro e w94 ⟨rfl, hb⟩; refine ⟨_, rfl, ?_⟩; have n_ := zA_ (za (zp zG86 hb)) (zA_ (za (zp zG85 hb)) (zA_ (za (zp zG82 hb)) (zA_ (za (zp zG83 hb)) (zA_ (za (zq (g := gb271) (o := .cells #[.int .i64 t264, .int .i64 t265, .int .i64 t266, .slice Ao15 t267.length co15] 30 (0, 0)) zG71 hb)) (zA_ (za (zq (g := gb285) (o := .cells #[.int .i64 t278, .int .i64 t279, .int .i64 t280, .slice Ao22 t281.length co22] 30 (0, 0)) zG72 hb)) (za (zt zG61 hb))))))); clear HO_6 HO_10 HO_272003 HO_286003 BK271 BK285 HB; obtain ⟨HO_6, HO_10, HO_272003, HO_286003, BK271, BK285, HB⟩ := n_; (try clear hb)))
      go_ret
      exact zH16
     rw [if_neg c87] at H
     have c87b0 := decide_eq_false c87
     clear c87
     by_cases c95 : t301 = t298
     rotate_left
     ·rw [if_neg c95] at H
      have c95b0 : (t301 == t298) = false := beq_eq_false_iff_ne.mpr c95
      have c95b1 : (t301 != t298) = true := bne_iff_ne.mpr c95
      obtain rfl := Option.some.inj H
      obtain ⟨Ao159, co159, eo159⟩ := zaa HO_10.out
      subst eo159
      go_wp2_with (first | ((with_reducible refine gate_callee (f := 15) rfl ?_); refine goesL_ (some 85) rfl rfl Try.func15 zG88 rfl #[.slice Ao159 t275.length co159, .int .i64 1] rfl zG63 ?_; (with_reducible refine (laws_markCartObsS.calls kj48 (fun k_ => some k_ = (.slice Ao159 t275.length co159 : Value).ownBlock) (.slice Ao159 t275.length co159) t275 1 t296 t297 w _ ?side1 ?side2 A77.out).mono ?_); (case side1 => exact zH38); (case side2 => exact zar rfl HO_10.out); rintro e w160 ⟨rfl, hy0, hb, hkp⟩; refine ⟨_, rfl, ?_⟩; have n_ := zA_ (za (zr (ok' := fun k_ => some k_ ≠ (.slice Ao159 t275.length co159 : Value).ownBlock) (zae (HO_6.out) hkp (fun k_ hk_ hs_ => (hk_) hs_)) (fun k_ hk_ => hk_.1))) (zA_ (za (zas rfl hy0 (fun k_ e_ => HO_10.out.1 k_ e_))) (zA_ (za (zr (ok' := fun k_ => some k_ ≠ (.slice Ao22 t281.length co22 : Value).ownBlock) (zae ((zai HO_272003.out (zah HO_10.out) zG89)) hkp (fun k_ hk_ hs_ => (hk_.2) hs_)) (fun k_ hk_ => hk_.1.1))) (zA_ (za (zr (ok' := fun k_ => some k_ ≠ (.slice Ao15 t267.length co15 : Value).ownBlock) (zae ((zai HO_286003.out (zah HO_10.out) zG89)) hkp (fun k_ hk_ hs_ => (hk_.2) hs_)) (fun k_ hk_ => hk_.1.1))) (zA_ (za (zad zG71 hkp (fun hs_ => (fun e_ => (zac HO_10.out BK271.out zG89) e_) hs_))) (zA_ (za (zad zG72 hkp (fun hs_ => (fun e_ => (zac HO_10.out BK285.out zG89) e_) hs_))) (za (hb))))))); clear HO_6 HO_10 HO_272003 HO_286003 BK271 BK285 HB; obtain ⟨HO_6, HO_10, HO_272003, HO_286003, BK271, BK285, HB⟩ := n_; (try clear hb); (try clear hkp); (try clear hy0); have hnb161 := NB285_271.out; have hnc161 := NB271_285.out; obtain ⟨hcz162_0, hcz162_1, hcz162_2, hcz162_3, hfz162_0, hfz162_1, hfz162_2, hfz162_3⟩ := zB4 BK285.out) | ((with_reducible refine gate_callee (f := 16) rfl ?_); refine goesL_ (some 88) rfl rfl Try.func16 zG88 rfl #[.agg #[.int .i64 t278, .int .i64 t279, .int .i64 t280, .slice Ao22 t281.length co22], .int .i64 t296] rfl zG63 ?_; (with_reducible refine (laws_markCarts.calls kj48 t278 t279 t280 (fun k_ => some k_ = (.slice Ao22 t281.length co22 : Value).ownBlock) (.slice Ao22 t281.length co22) t281 t296 t298 t299 w _ ?side1 ?side2 A78.out).mono ?_); (case side1 => exact zH38); (case side2 => exact zar rfl HO_286003.out); rintro e w163 ⟨rfl, hy0, hb, hkp⟩; refine ⟨_, rfl, ?_⟩; have n_ := zA_ (za (zr (ok' := fun k_ => some k_ ≠ (.slice Ao159 t275.length co159 : Value).ownBlock) (zae ((zai HO_6.out (zah HO_286003.out) zG89)) hkp (fun k_ hk_ hs_ => (hk_.2) hs_)) (fun k_ hk_ => hk_.1.1))) (zA_ (za (zr (ok' := fun k_ => some k_ ≠ (v262 : Value).ownBlock) (zae ((zai HO_10.out (zah HO_286003.out) zG89)) hkp (fun k_ hk_ hs_ => (hk_.2) hs_)) (fun k_ hk_ => hk_.1.1))) (zA_ (za (zr (ok' := fun k_ => some k_ ≠ (.slice Ao22 t281.length co22 : Value).ownBlock) (zae (HO_272003.out) hkp (fun k_ hk_ hs_ => (hk_) hs_)) (fun k_ hk_ => hk_.1))) (zA_ (za (zas rfl hy0 (fun k_ e_ => HO_286003.out.1 k_ e_))) (zA_ (za (zad zG71 hkp (fun hs_ => (fun e_ => (zac HO_286003.out BK271.out zG89) e_) hs_))) (zA_ (za (zad zG72 hkp (fun hs_ => (fun e_ => (zac HO_286003.out BK285.out zG89) e_) hs_))) (za (hb))))))); clear HO_6 HO_10 HO_272003 HO_286003 BK271 BK285 HB; obtain ⟨HO_6, HO_10, HO_272003, HO_286003, BK271, BK285, HB⟩ := n_; (try clear hb); (try clear hkp); (try clear hy0)) | ((with_reducible refine gate_callee (f := 17) rfl ?_); refine goesL_ (some 91) rfl rfl Try.func17 zG88 rfl #[.slice Ao159 t297.length co159, .int .i64 1] rfl zK127 ?_; (with_reducible refine (laws_heldCartObsS.calls kj48 _ _ t297 1 t300 _ ?side1 ?side2 A79.out).mono ?_); (case side1 => exact zH43); (case side2 => exact zH64); rintro e w' ⟨rfl, ⟨nd, rfl⟩⟩; refine ⟨_, rfl, ?_⟩; obtain ⟨hcz164_0, hcz164_1, hcz164_2, hcz164_3, hfz164_0, hfz164_1, hfz164_2, hfz164_3⟩ := zB4 BK285.out) | ((with_reducible refine gate_callee (f := 18) rfl ?_); refine goesL_ (some 96) rfl rfl Try.func18 zG88 rfl #[.agg #[.int .i64 t278, .int .i64 t279, .int .i64 t280, .slice Ao22 t299.length co22], .int .i64 t300] rfl zK126 ?_; (with_reducible refine (laws_heldCarts.calls kj48 t278 t279 t280 _ _ t299 t300 t301 _ ?side1 ?side2 A86.out).mono ?_); (case side1 => exact zH35); (case side2 => exact zH57); rintro e w165 ⟨rfl, hb⟩; refine ⟨_, rfl, ?_⟩; have n_ := zA_ (za (zp zG86 hb)) (zA_ (za (zp zG85 hb)) (zA_ (za (zp zG82 hb)) (zA_ (za (zp zG83 hb)) (zA_ (za (zq (g := gb271) (o := .cells #[.int .i64 t264, .int .i64 t265, .int .i64 t266, .slice Ao15 t267.length co15] 30 (0, 0)) zG71 hb)) (zA_ (za (zq (g := gb285) (o := .cells #[.int .i64 t278, .int .i64 t279, .int .i64 t280, .slice Ao22 t281.length co22] 30 (0, 0)) zG72 hb)) (za (zt zG61 hb))))))); clear HO_6 HO_10 HO_272003 HO_286003 BK271 BK285 HB; obtain ⟨HO_6, HO_10, HO_272003, HO_286003, BK271, BK285, HB⟩ := n_; (try clear hb)))
      go_ret
      exact zH16
     rw [if_pos c95] at H
     have c95b0 : (t301 == t298) = true := beq_iff_eq.mpr c95
     have c95b1 : (t301 != t298) = false := bne_eq_false_iff_eq.mpr c95
     clear c95
     replace H := Option.bind_eq_some_iff.mp H
     obtain ⟨t302, A960, H⟩ := H
     replace H : ((impl_CartRun.f kj48 a0 t302).bind fun bt305 => ((laws_eqCartObsS.f kj48 bt305.1 t261).bind fun t316 => (if t316 = true then ((laws_eqCarts.f kj48 bt305.2.1 bt305.2.2.1 bt305.2.2.2.1 bt305.2.2.2.2.1 t264 t265 t266 t267).bind fun t317 => (if t317 = true then (laws_FnExactCartRun.j2 kj48 t297 t298 (bt305.2.2.2.2.2 != t270) t278 t279 t280 t299) else (laws_FnExactCartRun.j2 kj48 t297 t298 true t278 t279 t280 t299))) else (laws_FnExactCartRun.j2 kj48 t297 t298 true t278 t279 t280 t299)))) = some r := H
     have A96 := za A960
     clear A960
     replace H := Option.bind_eq_some_iff.mp H
     obtain ⟨⟨t305, t308, t309, t310, t311, t314⟩, A970, H⟩ := H
     replace H : ((laws_eqCartObsS.f kj48 t305 t261).bind fun t316 => (if t316 = true then ((laws_eqCarts.f kj48 t308 t309 t310 t311 t264 t265 t266 t267).bind fun t317 => (if t317 = true then (laws_FnExactCartRun.j2 kj48 t297 t298 (t314 != t270) t278 t279 t280 t299) else (laws_FnExactCartRun.j2 kj48 t297 t298 true t278 t279 t280 t299))) else (laws_FnExactCartRun.j2 kj48 t297 t298 true t278 t279 t280 t299))) = some r := H
     obtain ⟨A97, HC98⟩ := zD2 A970 H
     clear A970 H
     obtain ⟨Ao99, co99, eo99⟩ := zaa HO_10.out
     subst eo99
     go_upto_region 29 with (first | ((with_reducible refine gate_callee (f := 15) rfl ?_); refine goesL_ (some 85) rfl rfl Try.func15 zG88 rfl #[.slice Ao99 t275.length co99, .int .i64 1] rfl zG63 ?_; (with_reducible refine (laws_markCartObsS.calls kj48 (fun k_ => some k_ = (.slice Ao99 t275.length co99 : Value).ownBlock) (.slice Ao99 t275.length co99) t275 1 t296 t297 w _ ?side1 ?side2 A77.out).mono ?_); (case side1 => exact zH38); (case side2 => exact zar rfl HO_10.out); rintro e w100 ⟨rfl, hy0, hb, hkp⟩; refine ⟨_, rfl, ?_⟩; have n_ := zA_ (za (zr (ok' := fun k_ => some k_ ≠ (.slice Ao99 t275.length co99 : Value).ownBlock) (zae (HO_6.out) hkp (fun k_ hk_ hs_ => (hk_) hs_)) (fun k_ hk_ => hk_.1))) (zA_ (za (zas rfl hy0 (fun k_ e_ => HO_10.out.1 k_ e_))) (zA_ (za (zr (ok' := fun k_ => some k_ ≠ (.slice Ao22 t281.length co22 : Value).ownBlock) (zae ((zai HO_272003.out (zah HO_10.out) zG89)) hkp (fun k_ hk_ hs_ => (hk_.2) hs_)) (fun k_ hk_ => hk_.1.1))) (zA_ (za (zr (ok' := fun k_ => some k_ ≠ (.slice Ao15 t267.length co15 : Value).ownBlock) (zae ((zai HO_286003.out (zah HO_10.out) zG89)) hkp (fun k_ hk_ hs_ => (hk_.2) hs_)) (fun k_ hk_ => hk_.1.1))) (zA_ (za (zad zG71 hkp (fun hs_ => (fun e_ => (zac HO_10.out BK271.out zG89) e_) hs_))) (zA_ (za (zad zG72 hkp (fun hs_ => (fun e_ => (zac HO_10.out BK285.out zG89) e_) hs_))) (za (hb))))))); clear HO_6 HO_10 HO_272003 HO_286003 BK271 BK285 HB; obtain ⟨HO_6, HO_10, HO_272003, HO_286003, BK271, BK285, HB⟩ := n_; (try clear hb); (try clear hkp); (try clear hy0); have hnb101 := NB285_271.out; have hnc101 := NB271_285.out; obtain ⟨hcz102_0, hcz102_1, hcz102_2, hcz102_3, hfz102_0, hfz102_1, hfz102_2, hfz102_3⟩ := zB4 BK285.out) | ((with_reducible refine gate_callee (f := 16) rfl ?_); refine goesL_ (some 88) rfl rfl Try.func16 zG88 rfl #[.agg #[.int .i64 t278, .int .i64 t279, .int .i64 t280, .slice Ao22 t281.length co22], .int .i64 t296] rfl zG63 ?_; (with_reducible refine (laws_markCarts.calls kj48 t278 t279 t280 (fun k_ => some k_ = (.slice Ao22 t281.length co22 : Value).ownBlock) (.slice Ao22 t281.length co22) t281 t296 t298 t299 w _ ?side1 ?side2 A78.out).mono ?_); (case side1 => exact zH38); (case side2 => exact zar rfl HO_286003.out); rintro e w103 ⟨rfl, hy0, hb, hkp⟩; refine ⟨_, rfl, ?_⟩; have n_ := zA_ (za (zr (ok' := fun k_ => some k_ ≠ (.slice Ao99 t275.length co99 : Value).ownBlock) (zae ((zai HO_6.out (zah HO_286003.out) zG89)) hkp (fun k_ hk_ hs_ => (hk_.2) hs_)) (fun k_ hk_ => hk_.1.1))) (zA_ (za (zr (ok' := fun k_ => some k_ ≠ (v262 : Value).ownBlock) (zae ((zai HO_10.out (zah HO_286003.out) zG89)) hkp (fun k_ hk_ hs_ => (hk_.2) hs_)) (fun k_ hk_ => hk_.1.1))) (zA_ (za (zr (ok' := fun k_ => some k_ ≠ (.slice Ao22 t281.length co22 : Value).ownBlock) (zae (HO_272003.out) hkp (fun k_ hk_ hs_ => (hk_) hs_)) (fun k_ hk_ => hk_.1))) (zA_ (za (zas rfl hy0 (fun k_ e_ => HO_286003.out.1 k_ e_))) (zA_ (za (zad zG71 hkp (fun hs_ => (fun e_ => (zac HO_286003.out BK271.out zG89) e_) hs_))) (zA_ (za (zad zG72 hkp (fun hs_ => (fun e_ => (zac HO_286003.out BK285.out zG89) e_) hs_))) (za (hb))))))); clear HO_6 HO_10 HO_272003 HO_286003 BK271 BK285 HB; obtain ⟨HO_6, HO_10, HO_272003, HO_286003, BK271, BK285, HB⟩ := n_; (try clear hb); (try clear hkp); (try clear hy0)) | ((with_reducible refine gate_callee (f := 17) rfl ?_); refine goesL_ (some 91) rfl rfl Try.func17 zG88 rfl #[.slice Ao99 t297.length co99, .int .i64 1] rfl zK127 ?_; (with_reducible refine (laws_heldCartObsS.calls kj48 _ _ t297 1 t300 _ ?side1 ?side2 A79.out).mono ?_); (case side1 => exact zH43); (case side2 => exact zH64); rintro e w' ⟨rfl, ⟨nd, rfl⟩⟩; refine ⟨_, rfl, ?_⟩; (try (rw [drewN_self w103]; generalize hq_ : World.drewN w103 _ = w103; have n0_ : Aside0 (Kd.R k34 34 w103 w.heap.size (fun k_ => some k_ ≠ (v262 : Value).ownBlock) (.slice Ao99 t275.length co99) t297) := ⟨by rw [← hq_]; exact zG85⟩; have n1_ : Aside0 (Kd.R k36 36 w103 w.heap.size (fun k_ => some k_ ≠ (.slice Ao22 t281.length co22 : Value).ownBlock) (.slice Ao15 t267.length co15) t267) := ⟨by rw [← hq_]; exact zG82⟩; have n2_ : Aside0 (Kd.R k36 36 w103 w.heap.size (fun k_ => some k_ ≠ (.slice Ao15 t267.length co15 : Value).ownBlock) (.slice Ao22 t281.length co22) t299) := ⟨by rw [← hq_]; exact zG83⟩; have n3_ : Aside0 (Kd.R k34 34 w103 w.heap.size (fun k_ => some k_ ≠ (.slice Ao99 t275.length co99 : Value).ownBlock) v262 t261) := ⟨by rw [← hq_]; exact zG86⟩; have n4_ : Aside0 (w103.heap[gb271]? = some (.cells #[.int .i64 t264, .int .i64 t265, .int .i64 t266, .slice Ao15 t267.length co15] 30 (0, 0))) := ⟨by rw [← hq_]; exact zG71⟩; have n5_ : Aside0 (w103.heap[gb285]? = some (.cells #[.int .i64 t278, .int .i64 t279, .int .i64 t280, .slice Ao22 t281.length co22] 30 (0, 0))) := ⟨by rw [← hq_]; exact zG72⟩; have n6_ : Aside0 (Below w.heap.size w w103) := ⟨by rw [← hq_]; exact zG61⟩; clear HO_10 HO_272003 HO_286003 HO_6 BK271 BK285 HB hq_; have HO_10 := n0_; have HO_272003 := n1_; have HO_286003 := n2_; have HO_6 := n3_; have BK271 := n4_; have BK285 := n5_; have HB := n6_; clear n0_ n1_ n2_ n3_ n4_ n5_ n6_)); (try have hcu104_0 : w103.cell? ⟨gb271, 0, none⟩ = some (.int .i64 t264) := (zc BK271.out 0).trans rfl); (try have hcu104_1 : w103.cell? ⟨gb271, 1, none⟩ = some (.int .i64 t265) := (zc BK271.out 1).trans rfl); (try have hcu104_2 : w103.cell? ⟨gb271, 2, none⟩ = some (.int .i64 t266) := (zc BK271.out 2).trans rfl); (try have hcu104_3 : w103.cell? ⟨gb271, 3, none⟩ = some (.slice Ao15 t267.length co15) := (zc BK271.out 3).trans rfl); (try have hfcu104_0 := ze BK271.out 0); (try have hfcu104_1 := ze BK271.out 1); (try have hfcu104_2 := ze BK271.out 2); (try have hfcu104_3 := ze BK271.out 3); (try have hcu105_0 : w103.cell? ⟨gb285, 0, none⟩ = some (.int .i64 t278) := (zc BK285.out 0).trans rfl); (try have hcu105_1 : w103.cell? ⟨gb285, 1, none⟩ = some (.int .i64 t279) := (zc BK285.out 1).trans rfl); (try have hcu105_2 : w103.cell? ⟨gb285, 2, none⟩ = some (.int .i64 t280) := (zc BK285.out 2).trans rfl); (try have hcu105_3 : w103.cell? ⟨gb285, 3, none⟩ = some (.slice Ao22 t281.length co22) := (zc BK285.out 3).trans rfl); (try have hfcu105_0 := ze BK285.out 0); (try have hfcu105_1 := ze BK285.out 1); (try have hfcu105_2 := ze BK285.out 2); (try have hfcu105_3 := ze BK285.out 3); obtain ⟨hcz106_0, hcz106_1, hcz106_2, hcz106_3, hfz106_0, hfz106_1, hfz106_2, hfz106_3⟩ := zB4 BK285.out) | ((with_reducible refine gate_callee (f := 18) rfl ?_); refine goesL_ (some 96) rfl rfl Try.func18 zG88 rfl #[.agg #[.int .i64 t278, .int .i64 t279, .int .i64 t280, .slice Ao22 t299.length co22], .int .i64 t300] rfl zK126 ?_; (with_reducible refine (laws_heldCarts.calls kj48 t278 t279 t280 _ _ t299 t300 t301 _ ?side1 ?side2 A86.out).mono ?_); (case side1 => exact zH35); (case side2 => exact zH57); rintro e w107 ⟨rfl, hb⟩; refine ⟨_, rfl, ?_⟩; have n_ := zA_ (za (zp zG86 hb)) (zA_ (za (zp zG85 hb)) (zA_ (za (zp zG82 hb)) (zA_ (za (zp zG83 hb)) (zA_ (za (zq (g := gb271) (o := .cells #[.int .i64 t264, .int .i64 t265, .int .i64 t266, .slice Ao15 t267.length co15] 30 (0, 0)) zG71 hb)) (zA_ (za (zq (g := gb285) (o := .cells #[.int .i64 t278, .int .i64 t279, .int .i64 t280, .slice Ao22 t281.length co22] 30 (0, 0)) zG72 hb)) (za (zt zG61 hb))))))); clear HO_6 HO_10 HO_272003 HO_286003 BK271 BK285 HB; obtain ⟨HO_6, HO_10, HO_272003, HO_286003, BK271, BK285, HB⟩ := n_; (try clear hb)) | ((with_reducible refine gate_callee (f := 10) rfl ?_); refine goesL_ (some 105) rfl rfl Try.func10 zG88 rfl #[.slice A1 l1.length c1] rfl zG63 ?_; (with_reducible refine (laws_toCartActS.calls kj48 _ _ l1 t302 _ ?side1 ?side2 A96.out).mono ?_); (case side1 => exact zH49); (case side2 => exact HC1.out); rintro e w108 ⟨v303, rfl, ho0, hb⟩; refine ⟨_, rfl, ?_⟩; have n_ := zA_ (za (zp zG86 hb)) (zA_ (za (zp zG85 hb)) (zA_ (za (zp zG82 hb)) (zA_ (za (zp zG83 hb)) (zA_ (za (zag ho0 (zs zG61))) (zA_ (za (zq (g := gb271) (o := .cells #[.int .i64 t264, .int .i64 t265, .int .i64 t266, .slice Ao15 t267.length co15] 30 (0, 0)) zG71 hb)) (zA_ (za (zq (g := gb285) (o := .cells #[.int .i64 t278, .int .i64 t279, .int .i64 t280, .slice Ao22 t281.length co22] 30 (0, 0)) zG72 hb)) (za (zt zG61 hb)))))))); clear HO_6 HO_10 HO_272003 HO_286003 BK271 BK285 HB; obtain ⟨HO_6, HO_10, HO_272003, HO_286003, HO304, BK271, BK285, HB⟩ := n_; (try clear hb); (try clear ho0); obtain ⟨Ao109, co109, eo109⟩ := zaa HO304.out; subst eo109) | ((with_reducible refine gate_callee (f := 7) rfl ?_); refine goesL_ (some 106) rfl rfl Try.func7 zG88 rfl #[.int .i64 a0, .slice Ao109 t302.length co109] rfl zG63 ?_; (with_reducible refine (impl_CartRun.calls kj48 a0 _ _ t302 t305 t308 t309 t310 t311 t314 _ ?side1 ?side2 A97.out).mono ?_); (case side1 => repeat (first | exact (Kd.R_reads' HO304.out).2.2 | (with_reducible refine zy ?_ _) | (with_reducible refine zz ?_ _) | (with_reducible refine zab ?_))); (case side2 => exact (Kd.R_reads' HO304.out).2.1); rintro e w110 ⟨v306, v312, rfl, ho0, ho1, hb⟩; refine ⟨_, rfl, ?_⟩; have n_ := zA_ (za (zaj zG86 (zam ho0) hb)) (zA_ (za (zaj zG85 (zam ho0) hb)) (zA_ (za (zaj zG82 (zam ho1) hb)) (zA_ (za (zaj zG83 (zam ho1) hb)) (zA_ (za (zp zK169 hb)) (zA_ (za (zag (zap (zap ho0 (zan zG86)) (zan zG85)) (zs zG61))) (zA_ (za (zag (zap (zap ho1 (zan zG82)) (zan zG83)) (zs zG61))) (zA_ (za (zq (g := gb271) (o := .cells #[.int .i64 t264, .int .i64 t265, .int .i64 t266, .slice Ao15 t267.length co15] 30 (0, 0)) zG71 hb)) (zA_ (za (zq (g := gb285) (o := .cells #[.int .i64 t278, .int .i64 t279, .int .i64 t280, .slice Ao22 t281.length co22] 30 (0, 0)) zG72 hb)) (za (zt zG61 hb)))))))))); clear HO_6 HO_10 HO_272003 HO_286003 HO304 BK271 BK285 HB; obtain ⟨HO_6, HO_10, HO_272003, HO_286003, HO304, HO307, HO313, BK271, BK285, HB⟩ := n_; (try clear hb); (try clear ho0); (try clear ho1)) | ((with_reducible refine gate_dst (N := 17) rfl ?_); refine box_event ?hg (N := 17) ?hd (cs := #[.int .i64 0, .int .i64 0, .int .i64 0, .slice none 0 0]) (t := 30) ?hr ?_; (case hd => rfl); (case hg => rfl); (case hr => exact zH89); intro gb315 hg w111 hbox hb; have n_ := zA_ (za (zp zG86 hb)) (zA_ (za (zp zG85 hb)) (zA_ (za (zp zG82 hb)) (zA_ (za (zp zG83 hb)) (zA_ (za (zp zK169 hb)) (zA_ (za (zp zK170 hb)) (zA_ (za (zp zK171 hb)) (zA_ (za (zq (g := gb271) (o := .cells #[.int .i64 t264, .int .i64 t265, .int .i64 t266, .slice Ao15 t267.length co15] 30 (0, 0)) zG71 hb)) (zA_ (za (zq (g := gb285) (o := .cells #[.int .i64 t278, .int .i64 t279, .int .i64 t280, .slice Ao22 t281.length co22] 30 (0, 0)) zG72 hb)) (zA_ (za (zt zG61 hb)) (zA_ (za (hbox)) (zA_ (zN1 w.heap.size hg (zs zG61)) (zA_ (zN1 w.heap.size hg (zs zG61)) (zN3 hg (zx (g := gb271) (o := .cells #[.int .i64 t264, .int .i64 t265, .int .i64 t266, .slice Ao15 t267.length co15] 30 (0, 0)) zG71) (zN2 hg (zx (g := gb285) (o := .cells #[.int .i64 t278, .int .i64 t279, .int .i64 t280, .slice Ao22 t281.length co22] 30 (0, 0)) zG72))))))))))))))); clear HO_6 HO_10 HO_272003 HO_286003 HO304 HO307 HO313 BK271 BK285 HB; obtain ⟨HO_6, HO_10, HO_272003, HO_286003, HO304, HO307, HO313, BK271, BK285, HB, BK315, GW315, GE315, NB271_315, NB315_271, NB285_315, NB315_285⟩ := n_; clear hb hbox hg; have hnb112 := NB315_271.out; have hnc112 := NB271_315.out; have hnb113 := NB315_285.out; have hnc113 := NB285_315.out; obtain ⟨hcz114_0, hcz114_1, hcz114_2, hcz114_3, hfz114_0, hfz114_1, hfz114_2, hfz114_3⟩ := zB4 BK315.out; obtain ⟨Ao115, co115, eo115⟩ := zaa HO313.out; subst eo115))
     (try simp only [Act.put, List.setIfInBounds_toArray, List.set_cons_zero, List.set_cons_succ])
     go_cut [124] (fun v124 wc => ∃ (kq : Nat) (x124_97 : Bool), v124 = .bool x124_97 ∧ Aside0 (laws_FnExactCartRun.j2 kq t297 t298 x124_97 t278 t279 t280 t299 = some r) ∧ Aside0 (kq ≤ kj48) ∧ Aside0 (Kd.R k34 34 wc w.heap.size (fun _ => True) (.slice Ao99 t275.length co99) t297) ∧ Aside0 (Kd.R k36 36 wc w.heap.size (fun k_ => some k_ ≠ ((.slice Ao22 t281.length co22) : Value).ownBlock ∧ some k_ ≠ ((.slice Ao115 t311.length co115) : Value).ownBlock) (.slice Ao15 t267.length co15) t267) ∧ Aside0 (Kd.R k36 36 wc w.heap.size (fun k_ => some k_ ≠ ((.slice Ao15 t267.length co15) : Value).ownBlock ∧ some k_ ≠ ((.slice Ao115 t311.length co115) : Value).ownBlock) (.slice Ao22 t281.length co22) t299) ∧ Aside0 (Kd.R k36 36 wc w.heap.size (fun k_ => some k_ ≠ ((.slice Ao15 t267.length co15) : Value).ownBlock ∧ some k_ ≠ ((.slice Ao22 t281.length co22) : Value).ownBlock) (.slice Ao115 t311.length co115) t311) ∧ Aside0 (wc.heap[gb271]? = some (.cells #[.int .i64 t264, .int .i64 t265, .int .i64 t266, (.slice Ao15 t267.length co15)] 30 (0, 0))) ∧ Aside0 (wc.heap[gb285]? = some (.cells #[.int .i64 t278, .int .i64 t279, .int .i64 t280, (.slice Ao22 t281.length co22)] 30 (0, 0))) ∧ Aside0 (wc.heap[gb315]? = some (.cells #[.int .i64 t308, .int .i64 t309, .int .i64 t310, (.slice Ao115 t311.length co115)] 30 (0, 0))) ∧ Aside0 (Below w.heap.size w wc))
     case first =>
      have H := HC98.out
      clear HC98
      replace H := Option.bind_eq_some_iff.mp H
      obtain ⟨t316, A1160, H⟩ := H
      replace H : (if t316 = true then ((laws_eqCarts.f kj48 t308 t309 t310 t311 t264 t265 t266 t267).bind fun t317 => (if t317 = true then (laws_FnExactCartRun.j2 kj48 t297 t298 (t314 != t270) t278 t279 t280 t299) else (laws_FnExactCartRun.j2 kj48 t297 t298 true t278 t279 t280 t299))) else (laws_FnExactCartRun.j2 kj48 t297 t298 true t278 t279 t280 t299)) = some r := H
      have A116 := za A1160
      clear A1160
      by_cases c117 : t316 = true
      rotate_left
      ·replace c117 := Bool.eq_false_iff.mpr c117
       subst c117
       have H1 : (laws_FnExactCartRun.j2 kj48 t297 t298 true t278 t279 t280 t299) = some r := by rw [if_neg (show ¬ (false = true) by decide)] at H; exact H
       clear H
       have H := H1
       clear H1
       have H' := za H
       clear H
       obtain ⟨Ao138, co138, eo138⟩ := zaa HO307.out
       subst eo138
       obtain ⟨Ao139, co139, eo139⟩ := zaa HO_6.out
       subst eo139
       go_wp2_with (first | ((with_reducible refine gate_callee (f := 11) rfl ?_); refine goesL_ (some 112) rfl rfl Try.func11 zG88 rfl #[.slice Ao138 t305.length co138, .slice Ao139 t261.length co139] rfl zG63 ?_; (with_reducible refine (laws_eqCartObsS.calls kj48 _ _ t305 _ _ t261 false _ ?side1 ?side2 ?side3 ?side4 A116.out).mono ?_); (case side1 => refine (Kd.R_reads' (e := 34) (base := w.heap.size) (ok := fun k_ => ((True ∧ some k_ ≠ (.slice Ao139 t261.length co139 : Value).ownBlock) ∧ some k_ ≠ (.slice Ao99 t275.length co99 : Value).ownBlock)) (n := t305.length) (c := co138) ?_).2.2; exact zK112); (case side2 => exact (Kd.R_reads' HO307.out).2.1); (case side3 => refine (Kd.R_reads' (e := 34) (base := w.heap.size) (ok := fun k_ => (some k_ ≠ (.slice Ao99 t275.length co99 : Value).ownBlock ∧ some k_ ≠ (.slice Ao138 t305.length co138 : Value).ownBlock)) (n := t261.length) (c := co139) ?_).2.2; exact zK116); (case side4 => exact zH93); rintro e w140 ⟨rfl, hb⟩; refine ⟨_, rfl, ?_⟩; have n_ := zA_ (za (zp zK116 hb)) (zA_ (za (zp zK113 hb)) (zA_ (za (zp zK110 hb)) (zA_ (za (zp zK111 hb)) (zA_ (za (zp zK114 hb)) (zA_ (za (zp zK112 hb)) (zA_ (za (zp zK115 hb)) (zA_ (za (zq (g := gb271) (o := .cells #[.int .i64 t264, .int .i64 t265, .int .i64 t266, .slice Ao15 t267.length co15] 30 (0, 0)) zK106 hb)) (zA_ (za (zq (g := gb285) (o := .cells #[.int .i64 t278, .int .i64 t279, .int .i64 t280, .slice Ao22 t281.length co22] 30 (0, 0)) zK107 hb)) (zA_ (za (zq (g := gb315) (o := .cells #[.int .i64 t308, .int .i64 t309, .int .i64 t310, .slice Ao115 t311.length co115] 30 (0, 0)) zK96 hb)) (za (zt zK131 hb))))))))))); clear HO_6 HO_10 HO_272003 HO_286003 HO304 HO307 HO313 BK271 BK285 BK315 HB; obtain ⟨HO_6, HO_10, HO_272003, HO_286003, HO304, HO307, HO313, BK271, BK285, BK315, HB⟩ := n_; (try clear hb); (try clear hk)))
       go_meet
       case rel => exact ⟨_, (true), zG87, H', ⟨zH86⟩, ⟨zH59⟩, ⟨zH79⟩, ⟨zH80⟩, ⟨zH56⟩, ⟨zH74⟩, ⟨zH75⟩, ⟨zH68⟩, ⟨zH27⟩⟩
      subst c117
      have H1 : ((laws_eqCarts.f kj48 t308 t309 t310 t311 t264 t265 t266 t267).bind fun t317 => (if t317 = true then (laws_FnExactCartRun.j2 kj48 t297 t298 (t314 != t270) t278 t279 t280 t299) else (laws_FnExactCartRun.j2 kj48 t297 t298 true t278 t279 t280 t299))) = some r := by rw [if_pos rfl] at H; exact H
      clear H
      have H := H1
      clear H1
      replace H := Option.bind_eq_some_iff.mp H
      obtain ⟨t317, A1180, H⟩ := H
      replace H : (if t317 = true then (laws_FnExactCartRun.j2 kj48 t297 t298 (t314 != t270) t278 t279 t280 t299) else (laws_FnExactCartRun.j2 kj48 t297 t298 true t278 t279 t280 t299)) = some r := H
      have A118 := za A1180
      clear A1180
      by_cases c119 : t317 = true
      ·subst c119
       have H1 : (laws_FnExactCartRun.j2 kj48 t297 t298 (t314 != t270) t278 t279 t280 t299) = some r := by rw [if_pos rfl] at H; exact H
       clear H
       have H := H1
       clear H1
       have H' := za H
       clear H
       obtain ⟨Ao120, co120, eo120⟩ := zaa HO307.out
       subst eo120
       obtain ⟨Ao121, co121, eo121⟩ := zaa HO_6.out
       subst eo121
       go_wp2_with (first | ((with_reducible refine gate_callee (f := 11) rfl ?_); refine goesL_ (some 112) rfl rfl Try.func11 zG88 rfl #[.slice Ao120 t305.length co120, .slice Ao121 t261.length co121] rfl zG63 ?_; (with_reducible refine (laws_eqCartObsS.calls kj48 _ _ t305 _ _ t261 true _ ?side1 ?side2 ?side3 ?side4 A116.out).mono ?_); (case side1 => refine (Kd.R_reads' (e := 34) (base := w.heap.size) (ok := fun k_ => ((True ∧ some k_ ≠ (.slice Ao121 t261.length co121 : Value).ownBlock) ∧ some k_ ≠ (.slice Ao99 t275.length co99 : Value).ownBlock)) (n := t305.length) (c := co120) ?_).2.2; exact zK112); (case side2 => exact (Kd.R_reads' HO307.out).2.1); (case side3 => refine (Kd.R_reads' (e := 34) (base := w.heap.size) (ok := fun k_ => (some k_ ≠ (.slice Ao99 t275.length co99 : Value).ownBlock ∧ some k_ ≠ (.slice Ao120 t305.length co120 : Value).ownBlock)) (n := t261.length) (c := co121) ?_).2.2; exact zK116); (case side4 => exact zH93); rintro e w122 ⟨rfl, hb⟩; refine ⟨_, rfl, ?_⟩; have n_ := zA_ (za (zp zK116 hb)) (zA_ (za (zp zK113 hb)) (zA_ (za (zp zK110 hb)) (zA_ (za (zp zK111 hb)) (zA_ (za (zp zK114 hb)) (zA_ (za (zp zK112 hb)) (zA_ (za (zp zK115 hb)) (zA_ (za (zq (g := gb271) (o := .cells #[.int .i64 t264, .int .i64 t265, .int .i64 t266, .slice Ao15 t267.length co15] 30 (0, 0)) zK106 hb)) (zA_ (za (zq (g := gb285) (o := .cells #[.int .i64 t278, .int .i64 t279, .int .i64 t280, .slice Ao22 t281.length co22] 30 (0, 0)) zK107 hb)) (zA_ (za (zq (g := gb315) (o := .cells #[.int .i64 t308, .int .i64 t309, .int .i64 t310, .slice Ao115 t311.length co115] 30 (0, 0)) zK96 hb)) (za (zt zK131 hb))))))))))); clear HO_6 HO_10 HO_272003 HO_286003 HO304 HO307 HO313 BK271 BK285 BK315 HB; obtain ⟨HO_6, HO_10, HO_272003, HO_286003, HO304, HO307, HO313, BK271, BK285, BK315, HB⟩ := n_; (try clear hb); (try clear hk); have hnb123 := NB315_271.out; have hnc123 := NB271_315.out; have hnb124 := NB315_285.out; have hnc124 := NB285_315.out; obtain ⟨hcz125_0, hcz125_1, hcz125_2, hcz125_3, hfz125_0, hfz125_1, hfz125_2, hfz125_3⟩ := zB4 BK315.out; have hnb126 := NB271_285.out; have hnc126 := NB285_271.out; obtain ⟨hcz127_0, hcz127_1, hcz127_2, hcz127_3, hfz127_0, hfz127_1, hfz127_2, hfz127_3⟩ := zB4 BK271.out) | (go_at_call 12; (with_reducible refine (laws_eqCarts.calls kj48 t308 t309 t310 _ _ t311 t264 t265 t266 _ _ t267 true _ ?side1 ?side2 ?side3 ?side4 A118.out).mono ?_); (case side1 => exact zH42); (case side2 => exact (Kd.R_reads' HO313.out).2.1); (case side3 => exact zH33); (case side4 => exact (Kd.R_reads' HO_272003.out).2.1); rintro e w128 ⟨rfl, hb⟩; have n_ := zA_ (za (zp zG86 hb)) (zA_ (za (zp zG85 hb)) (zA_ (za (zp zG82 hb)) (zA_ (za (zp zG83 hb)) (zA_ (za (zp zK169 hb)) (zA_ (za (zp zK170 hb)) (zA_ (za (zp zK171 hb)) (zA_ (za (zq (g := gb271) (o := .cells #[.int .i64 t264, .int .i64 t265, .int .i64 t266, .slice Ao15 t267.length co15] 30 (0, 0)) zG71 hb)) (zA_ (za (zq (g := gb285) (o := .cells #[.int .i64 t278, .int .i64 t279, .int .i64 t280, .slice Ao22 t281.length co22] 30 (0, 0)) zG72 hb)) (zA_ (za (zq (g := gb315) (o := .cells #[.int .i64 t308, .int .i64 t309, .int .i64 t310, .slice Ao115 t311.length co115] 30 (0, 0)) zK151 hb)) (za (zt zK131 hb))))))))))); clear HO_6 HO_10 HO_272003 HO_286003 HO304 HO307 HO313 BK271 BK285 BK315 HB; obtain ⟨HO_6, HO_10, HO_272003, HO_286003, HO304, HO307, HO313, BK271, BK285, BK315, HB⟩ := n_; (try clear hb); (try clear hk)))
       go_meet
       case rel => exact ⟨_, ((t314 != t270)), zG87, H', ⟨zH86⟩, ⟨zH59⟩, ⟨zH79⟩, ⟨zH80⟩, ⟨zH56⟩, ⟨zH74⟩, ⟨zH75⟩, ⟨zH68⟩, ⟨zH27⟩⟩
      replace c119 := Bool.eq_false_iff.mpr c119
      subst c119
      have H1 : (laws_FnExactCartRun.j2 kj48 t297 t298 true t278 t279 t280 t299) = some r := by rw [if_neg (show ¬ (false = true) by decide)] at H; exact H
      clear H
      have H := H1
      clear H1
      have H' := za H
      clear H
      obtain ⟨Ao129, co129, eo129⟩ := zaa HO307.out
      subst eo129
      obtain ⟨Ao130, co130, eo130⟩ := zaa HO_6.out
      subst eo130
      go_wp2_with (first | ((with_reducible refine gate_callee (f := 11) rfl ?_); refine goesL_ (some 112) rfl rfl Try.func11 zG88 rfl #[.slice Ao129 t305.length co129, .slice Ao130 t261.length co130] rfl zG63 ?_; (with_reducible refine (laws_eqCartObsS.calls kj48 _ _ t305 _ _ t261 true _ ?side1 ?side2 ?side3 ?side4 A116.out).mono ?_); (case side1 => refine (Kd.R_reads' (e := 34) (base := w.heap.size) (ok := fun k_ => ((True ∧ some k_ ≠ (.slice Ao130 t261.length co130 : Value).ownBlock) ∧ some k_ ≠ (.slice Ao99 t275.length co99 : Value).ownBlock)) (n := t305.length) (c := co129) ?_).2.2; exact zK112); (case side2 => exact (Kd.R_reads' HO307.out).2.1); (case side3 => refine (Kd.R_reads' (e := 34) (base := w.heap.size) (ok := fun k_ => (some k_ ≠ (.slice Ao99 t275.length co99 : Value).ownBlock ∧ some k_ ≠ (.slice Ao129 t305.length co129 : Value).ownBlock)) (n := t261.length) (c := co130) ?_).2.2; exact zK116); (case side4 => exact zH93); rintro e w131 ⟨rfl, hb⟩; refine ⟨_, rfl, ?_⟩; have n_ := zA_ (za (zp zK116 hb)) (zA_ (za (zp zK113 hb)) (zA_ (za (zp zK110 hb)) (zA_ (za (zp zK111 hb)) (zA_ (za (zp zK114 hb)) (zA_ (za (zp zK112 hb)) (zA_ (za (zp zK115 hb)) (zA_ (za (zq (g := gb271) (o := .cells #[.int .i64 t264, .int .i64 t265, .int .i64 t266, .slice Ao15 t267.length co15] 30 (0, 0)) zK106 hb)) (zA_ (za (zq (g := gb285) (o := .cells #[.int .i64 t278, .int .i64 t279, .int .i64 t280, .slice Ao22 t281.length co22] 30 (0, 0)) zK107 hb)) (zA_ (za (zq (g := gb315) (o := .cells #[.int .i64 t308, .int .i64 t309, .int .i64 t310, .slice Ao115 t311.length co115] 30 (0, 0)) zK96 hb)) (za (zt zK131 hb))))))))))); clear HO_6 HO_10 HO_272003 HO_286003 HO304 HO307 HO313 BK271 BK285 BK315 HB; obtain ⟨HO_6, HO_10, HO_272003, HO_286003, HO304, HO307, HO313, BK271, BK285, BK315, HB⟩ := n_; (try clear hb); (try clear hk); have hnb132 := NB315_271.out; have hnc132 := NB271_315.out; have hnb133 := NB315_285.out; have hnc133 := NB285_315.out; obtain ⟨hcz134_0, hcz134_1, hcz134_2, hcz134_3, hfz134_0, hfz134_1, hfz134_2, hfz134_3⟩ := zB4 BK315.out; have hnb135 := NB271_285.out; have hnc135 := NB285_271.out; obtain ⟨hcz136_0, hcz136_1, hcz136_2, hcz136_3, hfz136_0, hfz136_1, hfz136_2, hfz136_3⟩ := zB4 BK271.out) | (go_at_call 12; (with_reducible refine (laws_eqCarts.calls kj48 t308 t309 t310 _ _ t311 t264 t265 t266 _ _ t267 false _ ?side1 ?side2 ?side3 ?side4 A118.out).mono ?_); (case side1 => exact zH42); (case side2 => exact (Kd.R_reads' HO313.out).2.1); (case side3 => exact zH33); (case side4 => exact (Kd.R_reads' HO_272003.out).2.1); rintro e w137 ⟨rfl, hb⟩; have n_ := zA_ (za (zp zG86 hb)) (zA_ (za (zp zG85 hb)) (zA_ (za (zp zG82 hb)) (zA_ (za (zp zG83 hb)) (zA_ (za (zp zK169 hb)) (zA_ (za (zp zK170 hb)) (zA_ (za (zp zK171 hb)) (zA_ (za (zq (g := gb271) (o := .cells #[.int .i64 t264, .int .i64 t265, .int .i64 t266, .slice Ao15 t267.length co15] 30 (0, 0)) zG71 hb)) (zA_ (za (zq (g := gb285) (o := .cells #[.int .i64 t278, .int .i64 t279, .int .i64 t280, .slice Ao22 t281.length co22] 30 (0, 0)) zG72 hb)) (zA_ (za (zq (g := gb315) (o := .cells #[.int .i64 t308, .int .i64 t309, .int .i64 t310, .slice Ao115 t311.length co115] 30 (0, 0)) zK151 hb)) (za (zt zK131 hb))))))))))); clear HO_6 HO_10 HO_272003 HO_286003 HO304 HO307 HO313 BK271 BK285 BK315 HB; obtain ⟨HO_6, HO_10, HO_272003, HO_286003, HO304, HO307, HO313, BK271, BK285, BK315, HB⟩ := n_; (try clear hb); (try clear hk)))
      go_meet
      case rel => exact ⟨_, (true), zG87, H', ⟨zH86⟩, ⟨zH59⟩, ⟨zH79⟩, ⟨zH80⟩, ⟨zH56⟩, ⟨zH74⟩, ⟨zH75⟩, ⟨zH68⟩, ⟨zH27⟩⟩
     case rest =>
      clear HC98
      try clear c1
      try clear c4
      try clear c4b0
      try clear c24
      try clear c26
      try clear c44
      try clear c47
      try clear c54
      try clear c54b0
      try clear c56
      try clear c58
      try clear c76
      try clear c80
      try clear c80b0
      try clear c87
      try clear c87b0
      try clear c95
      try clear c95b0
      try clear c95b1
      try clear c117
      try clear c119
      try clear hcz102_0
      try clear hcz102_1
      try clear hcz102_2
      try clear hcz102_3
      try clear hcz106_0
      try clear hcz106_1
      try clear hcz106_2
      try clear hcz106_3
      try clear hcz114_0
      try clear hcz114_1
      try clear hcz114_2
      try clear hcz114_3
      try clear hcz125_0
      try clear hcz125_1
      try clear hcz125_2
      try clear hcz125_3
      try clear hcz127_0
      try clear hcz127_1
      try clear hcz127_2
      try clear hcz127_3
      try clear hcz134_0
      try clear hcz134_1
      try clear hcz134_2
      try clear hcz134_3
      try clear hcz136_0
      try clear hcz136_1
      try clear hcz136_2
      try clear hcz136_3
      try clear hcz14_0
      try clear hcz14_1
      try clear hcz14_2
      try clear hcz14_3
      try clear hcz21_0
      try clear hcz21_1
      try clear hcz21_2
      try clear hcz21_3
      try clear hcz31_0
      try clear hcz31_1
      try clear hcz31_2
      try clear hcz31_3
      try clear hcz32_0
      try clear hcz32_1
      try clear hcz32_2
      try clear hcz32_3
      try clear hcz38_0
      try clear hcz38_1
      try clear hcz38_2
      try clear hcz38_3
      try clear hcz39_0
      try clear hcz39_1
      try clear hcz39_2
      try clear hcz39_3
      try clear hcz63_0
      try clear hcz63_1
      try clear hcz63_2
      try clear hcz63_3
      try clear hcz64_0
      try clear hcz64_1
      try clear hcz64_2
      try clear hcz64_3
      try clear hcz70_0
      try clear hcz70_1
      try clear hcz70_2
      try clear hcz70_3
      try clear hcz71_0
      try clear hcz71_1
      try clear hcz71_2
      try clear hcz71_3
      try clear hcz84_0
      try clear hcz84_1
      try clear hcz84_2
      try clear hcz84_3
      try clear hcz91_0
      try clear hcz91_1
      try clear hcz91_2
      try clear hcz91_3
      try clear hcz93_0
      try clear hcz93_1
      try clear hcz93_2
      try clear hcz93_3
      try clear hfz102_0
      try clear hfz102_1
      try clear hfz102_2
      try clear hfz102_3
      try clear hfz106_0
      try clear hfz106_1
      try clear hfz106_2
      try clear hfz106_3
      try clear hfz114_0
      try clear hfz114_1
      try clear hfz114_2
      try clear hfz114_3
      try clear hfz125_0
      try clear hfz125_1
      try clear hfz125_2
      try clear hfz125_3
      try clear hfz127_0
      try clear hfz127_1
      try clear hfz127_2
      try clear hfz127_3
      try clear hfz134_0
      try clear hfz134_1
      try clear hfz134_2
      try clear hfz134_3
      try clear hfz136_0
      try clear hfz136_1
      try clear hfz136_2
      try clear hfz136_3
      try clear hfz14_0
      try clear hfz14_1
      try clear hfz14_2
      try clear hfz14_3
      try clear hfz21_0
      try clear hfz21_1
      try clear hfz21_2
      try clear hfz21_3
      try clear hfz31_0
      try clear hfz31_1
      try clear hfz31_2
      try clear hfz31_3
      try clear hfz32_0
      try clear hfz32_1
      try clear hfz32_2
      try clear hfz32_3
      try clear hfz38_0
      try clear hfz38_1
      try clear hfz38_2
      try clear hfz38_3
      try clear hfz39_0
      try clear hfz39_1
      try clear hfz39_2
      try clear hfz39_3
      try clear hfz63_0
      try clear hfz63_1
      try clear hfz63_2
      try clear hfz63_3
      try clear hfz64_0
      try clear hfz64_1
      try clear hfz64_2
      try clear hfz64_3
      try clear hfz70_0
      try clear hfz70_1
      try clear hfz70_2
      try clear hfz70_3
      try clear hfz71_0
      try clear hfz71_1
      try clear hfz71_2
      try clear hfz71_3
      try clear hfz84_0
      try clear hfz84_1
      try clear hfz84_2
      try clear hfz84_3
      try clear hfz91_0
      try clear hfz91_1
      try clear hfz91_2
      try clear hfz91_3
      try clear hfz93_0
      try clear hfz93_1
      try clear hfz93_2
      try clear hfz93_3
      obtain ⟨kq, x124_97, rfl, HA, HJ97, HO_10, HO_272003, HO_286003, HO_316003, BK271, BK285, BK315, HB⟩ := hcut
      have hl10_97 := (Kd.R_reads' HO_10.out).1
      rw [hl10_97] at HO_10
      (try simp only [hl10_97])
      (try simp only [hl10_97] at BK271)
      (try simp only [hl10_97] at BK285)
      (try simp only [hl10_97] at BK315)
      (try simp only [hl10_97] at HO_272003)
      (try simp only [hl10_97] at HO_286003)
      (try simp only [hl10_97] at HO_316003)
      have hl286003_97 := (Kd.R_reads' HO_286003.out).1
      rw [hl286003_97] at HO_286003
      (try simp only [hl286003_97])
      (try simp only [hl286003_97] at BK271)
      (try simp only [hl286003_97] at BK285)
      (try simp only [hl286003_97] at BK315)
      (try simp only [hl286003_97] at HO_10)
      (try simp only [hl286003_97] at HO_272003)
      (try simp only [hl286003_97] at HO_316003)
      cases kq with
      | zero => exact absurd HA.out (by simp [laws_FnExactCartRun.j2])
      | succ kj97 =>
       have H := HA.out
       clear HA
       simp only [laws_FnExactCartRun.j2] at H
       by_cases c141 : x124_97 = true
       ·subst c141
        have H1 : (some false) = some r := by rw [if_pos rfl] at H; exact H
        clear H
        have H := H1
        clear H1
        obtain rfl := Option.some.inj H
        go_wp2
        go_ret
        exact zH11
       replace c141 := Bool.eq_false_iff.mpr c141
       subst c141
       have H1 : ((laws_heldCartObsS.f kj97 t297 1).bind fun t318 => (if t318 < 0 then (some false) else ((laws_heldCarts.f kj97 t278 t279 t280 t299 t318).bind fun t319 => (if t319 < 0 then (some false) else (if t319 = t298 then (some true) else (some false)))))) = some r := by rw [if_neg (show ¬ (false = true) by decide)] at H; exact H
       clear H
       have H := H1
       clear H1
       replace H := Option.bind_eq_some_iff.mp H
       obtain ⟨t318, A1420, H⟩ := H
       replace H : (if t318 < 0 then (some false) else ((laws_heldCarts.f kj97 t278 t279 t280 t299 t318).bind fun t319 => (if t319 < 0 then (some false) else (if t319 = t298 then (some true) else (some false))))) = some r := H
       have A142 := za A1420
       clear A1420
       by_cases c143 : t318 < 0
       ·rw [if_pos c143] at H
        have c143b0 := decide_eq_true c143
        clear c143
        obtain rfl := Option.some.inj H
        go_wp2_with (first | ((with_reducible refine gate_callee (f := 17) rfl ?_); refine goesL_ (some 127) rfl rfl Try.func17 zG88 rfl #[.slice Ao99 t297.length co99, .int .i64 1] rfl zG63 ?_; (with_reducible refine (laws_heldCartObsS.calls kj97 _ _ t297 1 t318 _ ?side1 ?side2 A142.out).mono ?_); (case side1 => exact zH43); (case side2 => exact zH92); rintro e w' ⟨rfl, ⟨nd, rfl⟩⟩; refine ⟨_, rfl, ?_⟩))
        go_ret
        exact zH11
       rw [if_neg c143] at H
       have c143b0 := decide_eq_false c143
       clear c143
       replace H := Option.bind_eq_some_iff.mp H
       obtain ⟨t319, A1440, H⟩ := H
       replace H : (if t319 < 0 then (some false) else (if t319 = t298 then (some true) else (some false))) = some r := H
       have A144 := za A1440
       clear A1440
       by_cases c145 : t319 < 0
       ·rw [if_pos c145] at H
        have c145b0 := decide_eq_true c145
        clear c145
        obtain rfl := Option.some.inj H
        go_wp2_with (first | ((with_reducible refine gate_callee (f := 17) rfl ?_); refine goesL_ (some 127) rfl rfl Try.func17 zG88 rfl #[.slice Ao99 t297.length co99, .int .i64 1] rfl zG63 ?_; (with_reducible refine (laws_heldCartObsS.calls kj97 _ _ t297 1 t318 _ ?side1 ?side2 A142.out).mono ?_); (case side1 => exact zH43); (case side2 => exact zH92); rintro e w' ⟨rfl, ⟨nd, rfl⟩⟩; refine ⟨_, rfl, ?_⟩; have hnb146 := NB285_271.out; have hnc146 := NB271_285.out; have hnb147 := NB285_315.out; have hnc147 := NB315_285.out; obtain ⟨hcz148_0, hcz148_1, hcz148_2, hcz148_3, hfz148_0, hfz148_1, hfz148_2, hfz148_3⟩ := zB4 BK285.out) | ((with_reducible refine gate_callee (f := 18) rfl ?_); refine goesL_ (some 132) rfl rfl Try.func18 zG88 rfl #[.agg #[.int .i64 t278, .int .i64 t279, .int .i64 t280, .slice Ao22 t299.length co22], .int .i64 t318] rfl zG63 ?_; (with_reducible refine (laws_heldCarts.calls kj97 t278 t279 t280 _ _ t299 t318 t319 _ ?side1 ?side2 A144.out).mono ?_); (case side1 => exact zH35); (case side2 => exact zH91); rintro e w149 ⟨rfl, hb⟩; refine ⟨_, rfl, ?_⟩; have n_ := zA_ (za (zp zG85 hb)) (zA_ (za (zp zG82 hb)) (zA_ (za (zp zG83 hb)) (zA_ (za (zp zK161 hb)) (zA_ (za (zq (g := gb271) (o := .cells #[.int .i64 t264, .int .i64 t265, .int .i64 t266, .slice Ao15 t267.length co15] 30 (0, 0)) zG71 hb)) (zA_ (za (zq (g := gb285) (o := .cells #[.int .i64 t278, .int .i64 t279, .int .i64 t280, .slice Ao22 t299.length co22] 30 (0, 0)) zG72 hb)) (zA_ (za (zq (g := gb315) (o := .cells #[.int .i64 t308, .int .i64 t309, .int .i64 t310, .slice Ao115 t311.length co115] 30 (0, 0)) zK151 hb)) (za (zt zK131 hb)))))))); clear HO_10 HO_272003 HO_286003 HO_316003 BK271 BK285 BK315 HB; obtain ⟨HO_10, HO_272003, HO_286003, HO_316003, BK271, BK285, BK315, HB⟩ := n_; (try clear hb)))
        go_ret
        exact zH11
       rw [if_neg c145] at H
       have c145b0 := decide_eq_false c145
       clear c145
       by_cases c150 : t319 = t298
       rotate_left
       ·rw [if_neg c150] at H
        have c150b0 : (t319 == t298) = false := beq_eq_false_iff_ne.mpr c150
        have c150b1 : (t319 != t298) = true := bne_iff_ne.mpr c150
        obtain rfl := Option.some.inj H
        go_wp2_with (first | ((with_reducible refine gate_callee (f := 17) rfl ?_); refine goesL_ (some 127) rfl rfl Try.func17 zG88 rfl #[.slice Ao99 t297.length co99, .int .i64 1] rfl zG63 ?_; (with_reducible refine (laws_heldCartObsS.calls kj97 _ _ t297 1 t318 _ ?side1 ?side2 A142.out).mono ?_); (case side1 => exact zH43); (case side2 => exact zH92); rintro e w' ⟨rfl, ⟨nd, rfl⟩⟩; refine ⟨_, rfl, ?_⟩; have hnb155 := NB285_271.out; have hnc155 := NB271_285.out; have hnb156 := NB285_315.out; have hnc156 := NB315_285.out; obtain ⟨hcz157_0, hcz157_1, hcz157_2, hcz157_3, hfz157_0, hfz157_1, hfz157_2, hfz157_3⟩ := zB4 BK285.out) | ((with_reducible refine gate_callee (f := 18) rfl ?_); refine goesL_ (some 132) rfl rfl Try.func18 zG88 rfl #[.agg #[.int .i64 t278, .int .i64 t279, .int .i64 t280, .slice Ao22 t299.length co22], .int .i64 t318] rfl zG63 ?_; (with_reducible refine (laws_heldCarts.calls kj97 t278 t279 t280 _ _ t299 t318 t319 _ ?side1 ?side2 A144.out).mono ?_); (case side1 => exact zH35); (case side2 => exact zH91); rintro e w158 ⟨rfl, hb⟩; refine ⟨_, rfl, ?_⟩; have n_ := zA_ (za (zp zG85 hb)) (zA_ (za (zp zG82 hb)) (zA_ (za (zp zG83 hb)) (zA_ (za (zp zK161 hb)) (zA_ (za (zq (g := gb271) (o := .cells #[.int .i64 t264, .int .i64 t265, .int .i64 t266, .slice Ao15 t267.length co15] 30 (0, 0)) zG71 hb)) (zA_ (za (zq (g := gb285) (o := .cells #[.int .i64 t278, .int .i64 t279, .int .i64 t280, .slice Ao22 t299.length co22] 30 (0, 0)) zG72 hb)) (zA_ (za (zq (g := gb315) (o := .cells #[.int .i64 t308, .int .i64 t309, .int .i64 t310, .slice Ao115 t311.length co115] 30 (0, 0)) zK151 hb)) (za (zt zK131 hb)))))))); clear HO_10 HO_272003 HO_286003 HO_316003 BK271 BK285 BK315 HB; obtain ⟨HO_10, HO_272003, HO_286003, HO_316003, BK271, BK285, BK315, HB⟩ := n_; (try clear hb)))
        go_ret
        exact zH11
       rw [if_pos c150] at H
       have c150b0 : (t319 == t298) = true := beq_iff_eq.mpr c150
       have c150b1 : (t319 != t298) = false := bne_eq_false_iff_eq.mpr c150
       clear c150
       obtain rfl := Option.some.inj H
       go_wp2_with (first | ((with_reducible refine gate_callee (f := 17) rfl ?_); refine goesL_ (some 127) rfl rfl Try.func17 zG88 rfl #[.slice Ao99 t297.length co99, .int .i64 1] rfl zG63 ?_; (with_reducible refine (laws_heldCartObsS.calls kj97 _ _ t297 1 t318 _ ?side1 ?side2 A142.out).mono ?_); (case side1 => exact zH43); (case side2 => exact zH92); rintro e w' ⟨rfl, ⟨nd, rfl⟩⟩; refine ⟨_, rfl, ?_⟩; have hnb151 := NB285_271.out; have hnc151 := NB271_285.out; have hnb152 := NB285_315.out; have hnc152 := NB315_285.out; obtain ⟨hcz153_0, hcz153_1, hcz153_2, hcz153_3, hfz153_0, hfz153_1, hfz153_2, hfz153_3⟩ := zB4 BK285.out) | ((with_reducible refine gate_callee (f := 18) rfl ?_); refine goesL_ (some 132) rfl rfl Try.func18 zG88 rfl #[.agg #[.int .i64 t278, .int .i64 t279, .int .i64 t280, .slice Ao22 t299.length co22], .int .i64 t318] rfl zG63 ?_; (with_reducible refine (laws_heldCarts.calls kj97 t278 t279 t280 _ _ t299 t318 t319 _ ?side1 ?side2 A144.out).mono ?_); (case side1 => exact zH35); (case side2 => exact zH91); rintro e w154 ⟨rfl, hb⟩; refine ⟨_, rfl, ?_⟩; have n_ := zA_ (za (zp zG85 hb)) (zA_ (za (zp zG82 hb)) (zA_ (za (zp zG83 hb)) (zA_ (za (zp zK161 hb)) (zA_ (za (zq (g := gb271) (o := .cells #[.int .i64 t264, .int .i64 t265, .int .i64 t266, .slice Ao15 t267.length co15] 30 (0, 0)) zG71 hb)) (zA_ (za (zq (g := gb285) (o := .cells #[.int .i64 t278, .int .i64 t279, .int .i64 t280, .slice Ao22 t299.length co22] 30 (0, 0)) zG72 hb)) (zA_ (za (zq (g := gb315) (o := .cells #[.int .i64 t308, .int .i64 t309, .int .i64 t310, .slice Ao115 t311.length co115] 30 (0, 0)) zK151 hb)) (za (zt zK131 hb)))))))); clear HO_10 HO_272003 HO_286003 HO_316003 BK271 BK285 BK315 HB; obtain ⟨HO_10, HO_272003, HO_286003, HO_316003, BK271, BK285, BK315, HB⟩ := n_; (try clear hb)))
       go_ret
       exact zH11
end Go.Proofs.Ytdohpbhljifodaa.C
