-- squeezed
-- made by pp.py (wip/tools) out of the translation; Lean checks it
import Derived.Test.YtoibmbkmpadmnaaG0
import Derived.Test.YtoibmbkmpadmnaaG5
import Derived.Test.YtoibmbkmpadmnaaG6
import Derived.Test.YtoibmbkmpadmnaaG11
import Derived.Test.YtoibmbkmpadmnaaG12
import Derived.Test.YtoibmbkmpadmnaaG13
import Derived.Test.YtoibmbkmpadmnaaG14
import Derived.Test.YtoibmbkmpadmnaaG16
namespace Go.Proofs.Ytoibmbkmpadmnaa.G
open Go.RowKit Go.Proofs.YtoibmbkmpadmnaaW.PrintWords Go.Proofs.YtoibmbkmpadmnaaW.PrintLast Go.Proofs.YtoibmbkmpadmnaaW.PrintMore
attribute [local go_sem] max2_int min2_int max_two min_two max_three min_three max_four min_four   -- for this text's walks alone
set_option linter.unusedVariables false
set_option linter.unusedSimpArgs false

abbrev q17a := @blk_cell
/-! ### laws_FnExactLedgerOf: function 4 -/
mutual
def laws_FnExactLedgerOf.j0 : Nat → List (S59) → Int → List (S35) → Int → Bool → List (S39) → List ByteArray → List Int → List (S39) → List ByteArray → List Int → Option (Bool)
 | 0, _, _, _, _, _, _, _, _, _, _, _ => none
 | k + 1, x0, x5, x6, x8, x40, x278000, x278001, x278002, x292000, x292001, x292002 => if x40 = true then (some false) else ((laws_toEventS.f k x0).bind fun t293 => ((laws_eqEventS.f k x6 t293).bind fun t296 => (if t296 = true then ((laws_markEventS.f k x6 1).bind fun bt297 => (if bt297.1 < 0 then (laws_FnExactLedgerOf.j1 k x0 x5 true x278000 x278001 x278002 x292000 x292001 x292002) else ((laws_eqLedger.f k x292000 x292001 x292002 x278000 x278001 x278002).bind fun t299 => (if t299 = true then (laws_FnExactLedgerOf.j1 k x0 x5 (x8 != x5) x278000 x278001 x278002 x292000 x292001 x292002) else (laws_FnExactLedgerOf.j1 k x0 x5 true x278000 x278001 x278002 x292000 x292001 x292002))))) else (some false))))
def laws_FnExactLedgerOf.j1 : Nat → List (S59) → Int → Bool → List (S39) → List ByteArray → List Int → List (S39) → List ByteArray → List Int → Option (Bool)
 | 0, _, _, _, _, _, _, _, _, _ => none
 | k + 1, x0, x5, x61, x278000, x278001, x278002, x292000, x292001, x292002 => if x61 = true then (some false) else ((laws_markLedger.f k x292000 x292001 x292002 1).bind fun bt300 => ((laws_heldLedger.f k bt300.2.1 bt300.2.2.1 bt300.2.2.2 1).bind fun t304 => (if t304 < 0 then (some false) else (if t304 = bt300.1 then ((laws_toEventS.f k x0).bind fun t305 => ((impl_LedgerOf.f k t305).bind fun bt308 => ((laws_eqLedger.f k bt308.1 bt308.2.1 bt308.2.2.1 x278000 x278001 x278002).bind fun t319 => (if t319 = true then (laws_FnExactLedgerOf.j2 k bt300.1 (bt308.2.2.2 != x5) bt300.2.1 bt300.2.2.1 bt300.2.2.2) else (laws_FnExactLedgerOf.j2 k bt300.1 true bt300.2.1 bt300.2.2.1 bt300.2.2.2))))) else (some false)))))
def laws_FnExactLedgerOf.j2 : Nat → Int → Bool → List (S39) → List ByteArray → List Int → Option (Bool)
 | 0, _, _, _, _, _ => none
 | k + 1, x10, x87, x292000, x292001, x292002 => if x87 = true then (some false) else ((laws_heldLedger.f k x292000 x292001 x292002 1).bind fun t320 => (if t320 < 0 then (some false) else (if t320 = x10 then (some true) else (some false))))
end
def laws_FnExactLedgerOf.f (k : Nat) (l0 : List (S59)) : Option (Bool) := (laws_szEventS.f k l0 1048576).bind fun t263 => (if t263 < 0 then (some true) else ((laws_toEventS.f k l0).bind fun t264 => ((spec_LedgerOf.f k t264).bind fun bt267 => ((laws_toEventS.f k l0).bind fun t278 => ((impl_LedgerOf.f k t278).bind fun bt281 => ((laws_eqLedger.f k bt281.1 bt281.2.1 bt281.2.2.1 bt267.1 bt267.2.1 bt267.2.2.1).bind fun t292 => (if t292 = true then (laws_FnExactLedgerOf.j0 k l0 bt267.2.2.2 t278 bt281.2.2.2 (bt281.2.2.2 != bt267.2.2.2) bt267.1 bt267.2.1 bt267.2.2.1 bt281.1 bt281.2.1 bt281.2.2.1) else (laws_FnExactLedgerOf.j0 k l0 bt267.2.2.2 t278 bt281.2.2.2 true bt267.1 bt267.2.1 bt267.2.2.1 bt281.1 bt281.2.1 bt281.2.2.1))))))))
theorem laws_FnExactLedgerOf.mono_l : ∀ k, (∀ y0 y1 y2 y3 y4 y5 y6 y7 y8 y9 y10, LeO (laws_FnExactLedgerOf.j0 k y0 y1 y2 y3 y4 y5 y6 y7 y8 y9 y10) (laws_FnExactLedgerOf.j0 (k + 1) y0 y1 y2 y3 y4 y5 y6 y7 y8 y9 y10)) ∧ (∀ y0 y1 y2 y3 y4 y5 y6 y7 y8, LeO (laws_FnExactLedgerOf.j1 k y0 y1 y2 y3 y4 y5 y6 y7 y8) (laws_FnExactLedgerOf.j1 (k + 1) y0 y1 y2 y3 y4 y5 y6 y7 y8)) ∧ (∀ y0 y1 y2 y3 y4, LeO (laws_FnExactLedgerOf.j2 k y0 y1 y2 y3 y4) (laws_FnExactLedgerOf.j2 (k + 1) y0 y1 y2 y3 y4))
 | 0 => ⟨fun _ _ _ _ _ _ _ _ _ _ _ r h => by simp [laws_FnExactLedgerOf.j0] at h, fun _ _ _ _ _ _ _ _ _ r h => by simp [laws_FnExactLedgerOf.j1] at h, fun _ _ _ _ _ r h => by simp [laws_FnExactLedgerOf.j2] at h⟩
 | k + 1 => by
  obtain ⟨ih0, ih1, ih2⟩ := laws_FnExactLedgerOf.mono_l k
  refine ⟨?_, ?_, ?_⟩
  ·intro y0 y1 y2 y3 y4 y5 y6 y7 y8 y9 y10
   unfold laws_FnExactLedgerOf.j0
   repeat' first
   | (with_reducible exact ih0 _ _ _ _ _ _ _ _ _ _ _)
   | (with_reducible exact ih1 _ _ _ _ _ _ _ _ _)
   | (with_reducible exact ih2 _ _ _ _ _)
   | (with_reducible exact impl_LedgerOf.mono _ _)
   | (with_reducible exact laws_eqEventS.mono _ _ _)
   | (with_reducible exact laws_eqLedger.mono _ _ _ _ _ _ _)
   | (with_reducible exact laws_heldLedger.mono _ _ _ _ _)
   | (with_reducible exact laws_markEventS.mono _ _ _)
   | (with_reducible exact laws_markLedger.mono _ _ _ _ _)
   | (with_reducible exact laws_szEventS.mono _ _ _)
   | (with_reducible exact laws_toEventS.mono _ _)
   | (with_reducible exact spec_LedgerOf.mono _ _)
   | (with_reducible exact LeO.refl _)
   | (with_reducible exact LeO.none _)
   | (with_reducible refine LeO.ite ?_ ?_)
   | (with_reducible refine LeO.bind ?_ (fun _ => ?_))
   | exact ih0 _ _ _ _ _ _ _ _ _ _ _
   | exact ih1 _ _ _ _ _ _ _ _ _
   | exact ih2 _ _ _ _ _
   | exact impl_LedgerOf.mono _ _
   | exact laws_eqEventS.mono _ _ _
   | exact laws_eqLedger.mono _ _ _ _ _ _ _
   | exact laws_heldLedger.mono _ _ _ _ _
   | exact laws_markEventS.mono _ _ _
   | exact laws_markLedger.mono _ _ _ _ _
   | exact laws_szEventS.mono _ _ _
   | exact laws_toEventS.mono _ _
   | exact spec_LedgerOf.mono _ _
   | exact LeO.none _
   | refine LeO.ite ?_ ?_
   | refine LeO.bind ?_ (fun _ => ?_)
  ·intro y0 y1 y2 y3 y4 y5 y6 y7 y8
   unfold laws_FnExactLedgerOf.j1
   repeat' first
   | (with_reducible exact ih0 _ _ _ _ _ _ _ _ _ _ _)
   | (with_reducible exact ih1 _ _ _ _ _ _ _ _ _)
   | (with_reducible exact ih2 _ _ _ _ _)
   | (with_reducible exact impl_LedgerOf.mono _ _)
   | (with_reducible exact laws_eqEventS.mono _ _ _)
   | (with_reducible exact laws_eqLedger.mono _ _ _ _ _ _ _)
   | (with_reducible exact laws_heldLedger.mono _ _ _ _ _)
   | (with_reducible exact laws_markEventS.mono _ _ _)
   | (with_reducible exact laws_markLedger.mono _ _ _ _ _)
   | (with_reducible exact laws_szEventS.mono _ _ _)
   | (with_reducible exact laws_toEventS.mono _ _)
   | (with_reducible exact spec_LedgerOf.mono _ _)
   | (with_reducible exact LeO.refl _)
   | (with_reducible exact LeO.none _)
   | (with_reducible refine LeO.ite ?_ ?_)
   | (with_reducible refine LeO.bind ?_ (fun _ => ?_))
   | exact ih0 _ _ _ _ _ _ _ _ _ _ _
   | exact ih1 _ _ _ _ _ _ _ _ _
   | exact ih2 _ _ _ _ _
   | exact impl_LedgerOf.mono _ _
   | exact laws_eqEventS.mono _ _ _
   | exact laws_eqLedger.mono _ _ _ _ _ _ _
   | exact laws_heldLedger.mono _ _ _ _ _
   | exact laws_markEventS.mono _ _ _
   | exact laws_markLedger.mono _ _ _ _ _
   | exact laws_szEventS.mono _ _ _
   | exact laws_toEventS.mono _ _
   | exact spec_LedgerOf.mono _ _
   | exact LeO.none _
   | refine LeO.ite ?_ ?_
   | refine LeO.bind ?_ (fun _ => ?_)
  ·intro y0 y1 y2 y3 y4
   unfold laws_FnExactLedgerOf.j2
   repeat' first
   | (with_reducible exact ih0 _ _ _ _ _ _ _ _ _ _ _)
   | (with_reducible exact ih1 _ _ _ _ _ _ _ _ _)
   | (with_reducible exact ih2 _ _ _ _ _)
   | (with_reducible exact impl_LedgerOf.mono _ _)
   | (with_reducible exact laws_eqEventS.mono _ _ _)
   | (with_reducible exact laws_eqLedger.mono _ _ _ _ _ _ _)
   | (with_reducible exact laws_heldLedger.mono _ _ _ _ _)
   | (with_reducible exact laws_markEventS.mono _ _ _)
   | (with_reducible exact laws_markLedger.mono _ _ _ _ _)
   | (with_reducible exact laws_szEventS.mono _ _ _)
   | (with_reducible exact laws_toEventS.mono _ _)
   | (with_reducible exact spec_LedgerOf.mono _ _)
   | (with_reducible exact LeO.refl _)
   | (with_reducible exact LeO.none _)
   | (with_reducible refine LeO.ite ?_ ?_)
   | (with_reducible refine LeO.bind ?_ (fun _ => ?_))
   | exact ih0 _ _ _ _ _ _ _ _ _ _ _
   | exact ih1 _ _ _ _ _ _ _ _ _
   | exact ih2 _ _ _ _ _
   | exact impl_LedgerOf.mono _ _
   | exact laws_eqEventS.mono _ _ _
   | exact laws_eqLedger.mono _ _ _ _ _ _ _
   | exact laws_heldLedger.mono _ _ _ _ _
   | exact laws_markEventS.mono _ _ _
   | exact laws_markLedger.mono _ _ _ _ _
   | exact laws_szEventS.mono _ _ _
   | exact laws_toEventS.mono _ _
   | exact spec_LedgerOf.mono _ _
   | exact LeO.none _
   | refine LeO.ite ?_ ?_
   | refine LeO.bind ?_ (fun _ => ?_)
theorem laws_FnExactLedgerOf.mono : ∀ a0 k, LeO (laws_FnExactLedgerOf.f k a0) (laws_FnExactLedgerOf.f (k + 1) a0) := by
 intro a0 k
 obtain ⟨ih0, ih1, ih2⟩ := laws_FnExactLedgerOf.mono_l k
 unfold laws_FnExactLedgerOf.f
 repeat' first
   | (with_reducible exact ih0 _ _ _ _ _ _ _ _ _ _ _)
   | (with_reducible exact ih1 _ _ _ _ _ _ _ _ _)
   | (with_reducible exact ih2 _ _ _ _ _)
   | (with_reducible exact impl_LedgerOf.mono _ _)
   | (with_reducible exact laws_eqEventS.mono _ _ _)
   | (with_reducible exact laws_eqLedger.mono _ _ _ _ _ _ _)
   | (with_reducible exact laws_heldLedger.mono _ _ _ _ _)
   | (with_reducible exact laws_markEventS.mono _ _ _)
   | (with_reducible exact laws_markLedger.mono _ _ _ _ _)
   | (with_reducible exact laws_szEventS.mono _ _ _)
   | (with_reducible exact laws_toEventS.mono _ _)
   | (with_reducible exact spec_LedgerOf.mono _ _)
   | (with_reducible exact LeO.refl _)
   | (with_reducible exact LeO.none _)
   | (with_reducible refine LeO.ite ?_ ?_)
   | (with_reducible refine LeO.bind ?_ (fun _ => ?_))
   | exact ih0 _ _ _ _ _ _ _ _ _ _ _
   | exact ih1 _ _ _ _ _ _ _ _ _
   | exact ih2 _ _ _ _ _
   | exact impl_LedgerOf.mono _ _
   | exact laws_eqEventS.mono _ _ _
   | exact laws_eqLedger.mono _ _ _ _ _ _ _
   | exact laws_heldLedger.mono _ _ _ _ _
   | exact laws_markEventS.mono _ _ _
   | exact laws_markLedger.mono _ _ _ _ _
   | exact laws_szEventS.mono _ _ _
   | exact laws_toEventS.mono _ _
   | exact spec_LedgerOf.mono _ _
   | exact LeO.none _
   | refine LeO.ite ?_ ?_
   | refine LeO.bind ?_ (fun _ => ?_)
set_option maxHeartbeats 64000000 in
set_option maxRecDepth 100000 in
theorem laws_FnExactLedgerOf.calls (k : Nat) (A0 : Option Addr) (c0 : Nat) (l0 : List (S59)) (r : Bool) (w : World) (hr0 : Kd.C k59 w A0 l0.length l0) (hc0 : l0.length ≤ c0) (h : laws_FnExactLedgerOf.f k l0 = some r) :
  Calls Try.prog 4 #[.slice A0 l0.length c0] w fun e w' => e = .returned (.bool r) ∧ Below w.heap.size w w' := by
 have hu31 := Try.underlying31
 obtain ⟨HR0, HC0, HB⟩ := zD3 hr0 hc0 (Below.refl w.heap.size w)
 clear hr0 hc0
 have H : ((laws_szEventS.f k l0 1048576).bind fun t263 => (if t263 < 0 then (some true) else ((laws_toEventS.f k l0).bind fun t264 => ((spec_LedgerOf.f k t264).bind fun bt267 => ((laws_toEventS.f k l0).bind fun t278 => ((impl_LedgerOf.f k t278).bind fun bt281 => ((laws_eqLedger.f k bt281.1 bt281.2.1 bt281.2.2.1 bt267.1 bt267.2.1 bt267.2.2.1).bind fun t292 => (if t292 = true then (laws_FnExactLedgerOf.j0 k l0 bt267.2.2.2 t278 bt281.2.2.2 (bt281.2.2.2 != bt267.2.2.2) bt267.1 bt267.2.1 bt267.2.2.1 bt281.1 bt281.2.1 bt281.2.2.1) else (laws_FnExactLedgerOf.j0 k l0 bt267.2.2.2 t278 bt281.2.2.2 true bt267.1 bt267.2.1 bt267.2.2.1 bt281.1 bt281.2.1 bt281.2.2.1))))))))) = some r := h
 clear h
 replace H := Option.bind_eq_some_iff.mp H
 obtain ⟨t263, A20, H⟩ := H
 replace H : (if t263 < 0 then (some true) else ((laws_toEventS.f k l0).bind fun t264 => ((spec_LedgerOf.f k t264).bind fun bt267 => ((laws_toEventS.f k l0).bind fun t278 => ((impl_LedgerOf.f k t278).bind fun bt281 => ((laws_eqLedger.f k bt281.1 bt281.2.1 bt281.2.2.1 bt267.1 bt267.2.1 bt267.2.2.1).bind fun t292 => (if t292 = true then (laws_FnExactLedgerOf.j0 k l0 bt267.2.2.2 t278 bt281.2.2.2 (bt281.2.2.2 != bt267.2.2.2) bt267.1 bt267.2.1 bt267.2.2.1 bt281.1 bt281.2.1 bt281.2.2.1) else (laws_FnExactLedgerOf.j0 k l0 bt267.2.2.2 t278 bt281.2.2.2 true bt267.1 bt267.2.1 bt267.2.2.1 bt281.1 bt281.2.1 bt281.2.2.1)))))))) = some r := H
 have A2 := zb A20
 clear A20
 by_cases c3 : t263 < 0
 ·rw [if_pos c3] at H
  have c3b0 := decide_eq_true c3
  clear c3
  obtain rfl := Option.some.inj H
  go_enter Try.func4, Try.ntmps4
  go_wp2_with (first | ((with_reducible refine gate_callee (f := 10) rfl ?_); refine goesL_ (some 16) rfl rfl Try.func10 zG75 rfl #[.slice A0 l0.length c0, .int .i64 1048576] rfl zG55 ?_; (with_reducible refine (laws_szEventS.calls k _ _ l0 1048576 t263 _ ?side1 ?side2 A2.out).mono ?_); (case side1 => exact zH59); (case side2 => exact HC0.out); rintro e w4 ⟨rfl, hb⟩; refine ⟨_, rfl, ?_⟩; replace HB := zb (zr zG61 hb); (try clear hb)))
  go_ret
  exact zH32
 rw [if_neg c3] at H
 have c3b0 := decide_eq_false c3
 clear c3
 replace H := Option.bind_eq_some_iff.mp H
 obtain ⟨t264, A50, H⟩ := H
 replace H : ((spec_LedgerOf.f k t264).bind fun bt267 => ((laws_toEventS.f k l0).bind fun t278 => ((impl_LedgerOf.f k t278).bind fun bt281 => ((laws_eqLedger.f k bt281.1 bt281.2.1 bt281.2.2.1 bt267.1 bt267.2.1 bt267.2.2.1).bind fun t292 => (if t292 = true then (laws_FnExactLedgerOf.j0 k l0 bt267.2.2.2 t278 bt281.2.2.2 (bt281.2.2.2 != bt267.2.2.2) bt267.1 bt267.2.1 bt267.2.2.1 bt281.1 bt281.2.1 bt281.2.2.1) else (laws_FnExactLedgerOf.j0 k l0 bt267.2.2.2 t278 bt281.2.2.2 true bt267.1 bt267.2.1 bt267.2.2.1 bt281.1 bt281.2.1 bt281.2.2.1)))))) = some r := H
 have A5 := zb A50
 clear A50
 replace H := Option.bind_eq_some_iff.mp H
 obtain ⟨⟨t267, t270, t273, t276⟩, A60, H⟩ := H
 replace H : ((laws_toEventS.f k l0).bind fun t278 => ((impl_LedgerOf.f k t278).bind fun bt281 => ((laws_eqLedger.f k bt281.1 bt281.2.1 bt281.2.2.1 t267 t270 t273).bind fun t292 => (if t292 = true then (laws_FnExactLedgerOf.j0 k l0 t276 t278 bt281.2.2.2 (bt281.2.2.2 != t276) t267 t270 t273 bt281.1 bt281.2.1 bt281.2.2.1) else (laws_FnExactLedgerOf.j0 k l0 t276 t278 bt281.2.2.2 true t267 t270 t273 bt281.1 bt281.2.1 bt281.2.2.1))))) = some r := H
 have A6 := zb A60
 clear A60
 replace H := Option.bind_eq_some_iff.mp H
 obtain ⟨t278, A70, H⟩ := H
 replace H : ((impl_LedgerOf.f k t278).bind fun bt281 => ((laws_eqLedger.f k bt281.1 bt281.2.1 bt281.2.2.1 t267 t270 t273).bind fun t292 => (if t292 = true then (laws_FnExactLedgerOf.j0 k l0 t276 t278 bt281.2.2.2 (bt281.2.2.2 != t276) t267 t270 t273 bt281.1 bt281.2.1 bt281.2.2.1) else (laws_FnExactLedgerOf.j0 k l0 t276 t278 bt281.2.2.2 true t267 t270 t273 bt281.1 bt281.2.1 bt281.2.2.1)))) = some r := H
 have A7 := zb A70
 clear A70
 replace H := Option.bind_eq_some_iff.mp H
 obtain ⟨⟨t281, t284, t287, t290⟩, A80, H⟩ := H
 replace H : ((laws_eqLedger.f k t281 t284 t287 t267 t270 t273).bind fun t292 => (if t292 = true then (laws_FnExactLedgerOf.j0 k l0 t276 t278 t290 (t290 != t276) t267 t270 t273 t281 t284 t287) else (laws_FnExactLedgerOf.j0 k l0 t276 t278 t290 true t267 t270 t273 t281 t284 t287))) = some r := H
 obtain ⟨A8, HC9⟩ := zD2 A80 H
 clear A80 H
 go_enter Try.func4, Try.ntmps4
 go_upto_region 8 with (first | ((with_reducible refine gate_callee (f := 10) rfl ?_); refine goesL_ (some 16) rfl rfl Try.func10 zG75 rfl #[.slice A0 l0.length c0, .int .i64 1048576] rfl zG55 ?_; (with_reducible refine (laws_szEventS.calls k _ _ l0 1048576 t263 _ ?side1 ?side2 A2.out).mono ?_); (case side1 => exact zH59); (case side2 => exact HC0.out); rintro e w10 ⟨rfl, hb⟩; refine ⟨_, rfl, ?_⟩; replace HB := zb (zr zG61 hb); (try clear hb); (try clear hk)) | ((with_reducible refine gate_callee (f := 12) rfl ?_); refine goesL_ (some 21) rfl rfl Try.func12 zG75 rfl #[.slice A0 l0.length c0] rfl zG55 ?_; (with_reducible refine (laws_toEventS.calls k _ _ l0 t264 _ ?side1 ?side2 A5.out).mono ?_); (case side1 => exact zH57); (case side2 => exact HC0.out); rintro e w11 ⟨v265, rfl, ho0, hb⟩; refine ⟨_, rfl, ?_⟩; have n_ := zA_ (zb (zah ho0 (zq zG61))) (zb (zr zG61 hb)); clear HB; obtain ⟨HO266, HB⟩ := n_; (try clear hb); (try clear hk); (try clear ho0); obtain ⟨Ao12, co12, eo12⟩ := zy HO266.out; subst eo12) | ((with_reducible refine gate_callee (f := 11) rfl ?_); refine goesL_ (some 22) rfl rfl Try.func11 zG75 rfl #[.slice Ao12 t264.length co12] rfl zG55 ?_; (with_reducible refine (spec_LedgerOf.calls k _ _ t264 t267 t270 t273 t276 _ ?side1 ?side2 A6.out).mono ?_); (case side1 => repeat (first | exact (Kd.R_reads' HO266.out).2.2 | (with_reducible refine zu ?_ _) | (with_reducible refine zv ?_ _) | (with_reducible refine zw ?_))); (case side2 => exact (Kd.R_reads' HO266.out).2.1); rintro e w13 ⟨v268, v271, v274, rfl, ho0, ho1, ho2, hb⟩; refine ⟨_, rfl, ?_⟩; have n_ := zA_ (zb (zo zK169 hb)) (zA_ (zb (zah ho0 (zq zG61))) (zA_ (zb (zah ho1 (zq zG61))) (zA_ (zb (zah ho2 (zq zG61))) (zb (zr zG61 hb))))); clear HO266 HB; obtain ⟨HO266, HO269, HO272, HO275, HB⟩ := n_; (try clear hb); (try clear hk); (try clear ho0); (try clear ho1); (try clear ho2)) | ((with_reducible refine gate_dst (N := 4) rfl ?_); refine box_event ?hg (N := 4) ?hd (cs := #[.slice none 0 0, .slice none 0 0, .slice none 0 0]) (t := 31) ?hr ?_; (case hd => rfl); (case hg => rfl); (case hr => exact zH101); intro gb277 hg w14 hbox hb; have n_ := zA_ (zb (zo zK169 hb)) (zA_ (zb (zo zK170 hb)) (zA_ (zb (zo zK171 hb)) (zA_ (zb (zo zK172 hb)) (zA_ (zb (zr zG61 hb)) (zA_ (zb (hbox)) (zA_ (zN1 w.heap.size hg (zq zG61)) (zN1 w.heap.size hg (zq zG61)))))))); clear HO266 HO269 HO272 HO275 HB; obtain ⟨HO266, HO269, HO272, HO275, HB, BK277, GW277, GE277⟩ := n_; clear hb hbox hg; obtain ⟨Ao15, co15, eo15⟩ := zy HO269.out; subst eo15; have hcz16_0 : w14.cell? ⟨gb277, 0, none⟩ = some (.slice none 0 0) := (q17a BK277.out 0).trans rfl; have hcz16_1 : w14.cell? ⟨gb277, 1, none⟩ = some (.slice none 0 0) := (q17a BK277.out 1).trans rfl; have hcz16_2 : w14.cell? ⟨gb277, 2, none⟩ = some (.slice none 0 0) := (q17a BK277.out 2).trans rfl; have hfz16_0 := zd BK277.out 0; have hfz16_1 := zd BK277.out 1; have hfz16_2 := zd BK277.out 2; obtain ⟨Ao17, co17, eo17⟩ := zy HO272.out; subst eo17; obtain ⟨Ao18, co18, eo18⟩ := zy HO275.out; subst eo18) | ((with_reducible refine gate_callee (f := 12) rfl ?_); refine goesL_ (some 26) rfl rfl Try.func12 zG75 rfl #[.slice A0 l0.length c0] rfl zG55 ?_; (with_reducible refine (laws_toEventS.calls k _ _ l0 t278 _ ?side1 ?side2 A7.out).mono ?_); (case side1 => exact zab HR0.out zG56); (case side2 => exact HC0.out); rintro e w19 ⟨v279, rfl, ho0, hb⟩; refine ⟨_, rfl, ?_⟩; have n_ := zA_ (zb (zak zK126 (zap ho0) hb)) (zA_ (zb (zo (by (with_reducible repeat (first | apply zj | apply zk | apply zl)); exact (zp (zn (p := ⟨gb277, 2, none⟩) (zn (p := ⟨gb277, 1, none⟩) (zn (p := ⟨gb277, 0, none⟩) (zs HO269.out BK277.out zG76) (fun _ hk => hk.2) (.slice Ao15 t267.length co15)) (fun _ hk => hk.2) (.slice Ao17 t270.length co17)) (fun _ hk => hk.2) (.slice Ao18 t273.length co18)) (fun _ h_ => h_.1))) hb)) (zA_ (zb (zo (by (with_reducible repeat (first | apply zj | apply zk | apply zl)); exact (zp (zn (p := ⟨gb277, 2, none⟩) (zn (p := ⟨gb277, 1, none⟩) (zn (p := ⟨gb277, 0, none⟩) (zs HO272.out BK277.out zG76) (fun _ hk => hk.2) (.slice Ao15 t267.length co15)) (fun _ hk => hk.2) (.slice Ao17 t270.length co17)) (fun _ hk => hk.2) (.slice Ao18 t273.length co18)) (fun _ h_ => h_.1))) hb)) (zA_ (zb (zo (by (with_reducible repeat (first | apply zj | apply zk | apply zl)); exact (zp (zn (p := ⟨gb277, 2, none⟩) (zn (p := ⟨gb277, 1, none⟩) (zn (p := ⟨gb277, 0, none⟩) (zs HO275.out BK277.out zG76) (fun _ hk => hk.2) (.slice Ao15 t267.length co15)) (fun _ hk => hk.2) (.slice Ao17 t270.length co17)) (fun _ hk => hk.2) (.slice Ao18 t273.length co18)) (fun _ h_ => h_.1))) hb)) (zA_ (zb (zah (zaq ho0 (zau zK126)) (zq zG56))) (zA_ (zb (zt (g := gb277) (o := .cells #[.slice Ao15 t267.length co15, .slice Ao17 t270.length co17, .slice Ao18 t273.length co18] 31 (0, 0)) (by (with_reducible repeat (first | refine zh ?_ _ | refine zm ?_ | refine zi ?_ _)); refine zz (cs := #[.slice Ao15 t267.length co15, .slice Ao17 t270.length co17, .slice none 0 0]) ?_ 2 _ rfl; (with_reducible repeat (first | refine zh ?_ _ | refine zm ?_ | refine zi ?_ _)); refine zz (cs := #[.slice Ao15 t267.length co15, .slice none 0 0, .slice none 0 0]) ?_ 1 _ rfl; (with_reducible repeat (first | refine zh ?_ _ | refine zm ?_ | refine zi ?_ _)); refine zz (cs := #[.slice none 0 0, .slice none 0 0, .slice none 0 0]) ?_ 0 _ rfl; (with_reducible repeat (first | refine zh ?_ _ | refine zm ?_ | refine zi ?_ _)); exact BK277.out) hb)) (zb (zr zG56 hb))))))); clear HO266 HO269 HO272 HO275 BK277 HB; obtain ⟨HO266, HO269, HO272, HO275, HO280, BK277, HB⟩ := n_; (try clear hb); (try clear hk); (try clear ho0); obtain ⟨Ao20, co20, eo20⟩ := zy HO280.out; subst eo20) | ((with_reducible refine gate_callee (f := 7) rfl ?_); refine goesL_ (some 29) rfl rfl Try.func7 zG75 rfl #[.slice Ao20 t278.length co20] rfl zG55 ?_; (with_reducible refine (impl_LedgerOf.calls k _ _ t278 t281 t284 t287 t290 _ ?side1 ?side2 A8.out).mono ?_); (case side1 => repeat (first | exact (Kd.R_reads' HO280.out).2.2 | (with_reducible refine zu ?_ _) | (with_reducible refine zv ?_ _) | (with_reducible refine zw ?_))); (case side2 => exact (Kd.R_reads' HO280.out).2.1); rintro e w21 ⟨v282, v285, v288, rfl, ho0, ho1, ho2, hb⟩; refine ⟨_, rfl, ?_⟩; have n_ := zA_ (zb (zo zK169 hb)) (zA_ (zb (zak zK170 (zap ho0) hb)) (zA_ (zb (zak zK171 (zap ho1) hb)) (zA_ (zb (zak zK172 (zap ho2) hb)) (zA_ (zb (zo (by (with_reducible repeat (first | apply zj | apply zk | apply zl)); exact HO280.out) hb)) (zA_ (zb (zah (zaq ho0 (zau zK170)) (zq zG56))) (zA_ (zb (zah (zaq ho1 (zau zK171)) (zq zG56))) (zA_ (zb (zah (zaq ho2 (zau zK172)) (zq zG56))) (zA_ (zb (zt (g := gb277) (o := .cells #[.slice Ao15 t267.length co15, .slice Ao17 t270.length co17, .slice Ao18 t273.length co18] 31 (0, 0)) zG62 hb)) (zb (zr zG56 hb)))))))))); clear HO266 HO269 HO272 HO275 HO280 BK277 HB; obtain ⟨HO266, HO269, HO272, HO275, HO280, HO283, HO286, HO289, BK277, HB⟩ := n_; (try clear hb); (try clear hk); (try clear ho0); (try clear ho1); (try clear ho2)) | ((with_reducible refine gate_dst (N := 7) rfl ?_); refine box_event ?hg (N := 7) ?hd (cs := #[.slice none 0 0, .slice none 0 0, .slice none 0 0]) (t := 31) ?hr ?_; (case hd => rfl); (case hg => rfl); (case hr => exact zH101); intro gb291 hg w22 hbox hb; have n_ := zA_ (zb (zo zK169 hb)) (zA_ (zb (zo zK170 hb)) (zA_ (zb (zo zK171 hb)) (zA_ (zb (zo zK172 hb)) (zA_ (zb (zo (by (with_reducible repeat (first | apply zj | apply zk | apply zl)); exact HO280.out) hb)) (zA_ (zb (zo (by (with_reducible repeat (first | apply zj | apply zk | apply zl)); exact HO283.out) hb)) (zA_ (zb (zo (by (with_reducible repeat (first | apply zj | apply zk | apply zl)); exact HO286.out) hb)) (zA_ (zb (zo (by (with_reducible repeat (first | apply zj | apply zk | apply zl)); exact HO289.out) hb)) (zA_ (zb (zt (g := gb277) (o := .cells #[.slice Ao15 t267.length co15, .slice Ao17 t270.length co17, .slice Ao18 t273.length co18] 31 (0, 0)) zG62 hb)) (zA_ (zb (zr zG56 hb)) (zA_ (zb (hbox)) (zA_ (zN1 w.heap.size hg (zq zG56)) (zA_ (zN1 w.heap.size hg (zq zG56)) (zN2 hg (zaa (g := gb277) (o := .cells #[.slice Ao15 t267.length co15, .slice Ao17 t270.length co17, .slice Ao18 t273.length co18] 31 (0, 0)) zG62)))))))))))))); clear HO266 HO269 HO272 HO275 HO280 HO283 HO286 HO289 BK277 HB; obtain ⟨HO266, HO269, HO272, HO275, HO280, HO283, HO286, HO289, BK277, HB, BK291, GW291, GE291, NB277_291, NB291_277⟩ := n_; clear hb hbox hg; obtain ⟨Ao23, co23, eo23⟩ := zy HO283.out; subst eo23; have hnb24 := NB291_277.out; have hnc24 := NB277_291.out; have hcz25_0 : w22.cell? ⟨gb291, 0, none⟩ = some (.slice none 0 0) := (q17a BK291.out 0).trans rfl; have hcz25_1 : w22.cell? ⟨gb291, 1, none⟩ = some (.slice none 0 0) := (q17a BK291.out 1).trans rfl; have hcz25_2 : w22.cell? ⟨gb291, 2, none⟩ = some (.slice none 0 0) := (q17a BK291.out 2).trans rfl; have hfz25_0 := zd BK291.out 0; have hfz25_1 := zd BK291.out 1; have hfz25_2 := zd BK291.out 2; obtain ⟨Ao26, co26, eo26⟩ := zy HO286.out; subst eo26; obtain ⟨Ao27, co27, eo27⟩ := zy HO289.out; subst eo27))
 (try simp only [Act.put, List.setIfInBounds_toArray, List.set_cons_zero, List.set_cons_succ])
 go_cut [40] (fun v40 wc => ∃ (kq : Nat) (x40_8 : Bool), v40 = .bool x40_8 ∧ Aside0 (laws_FnExactLedgerOf.j0 kq l0 t276 t278 t290 x40_8 t267 t270 t273 t281 t284 t287 = some r) ∧ Aside0 (kq ≤ k) ∧ Aside0 (Kd.R k35 35 wc w.heap.size (fun _ => True) (.slice Ao20 t278.length co20) t278) ∧ Aside0 (Kd.R k39 39 wc w.heap.size (fun k_ => some k_ ≠ ((.slice Ao23 t281.length co23) : Value).ownBlock) (.slice Ao15 t267.length co15) t267) ∧ Aside0 (Kd.R Kd.string 9 wc w.heap.size (fun k_ => some k_ ≠ ((.slice Ao26 t284.length co26) : Value).ownBlock) (.slice Ao17 t270.length co17) t270) ∧ Aside0 (Kd.R (Kd.int .i64) 3 wc w.heap.size (fun k_ => some k_ ≠ ((.slice Ao27 t287.length co27) : Value).ownBlock) (.slice Ao18 t273.length co18) t273) ∧ Aside0 (Kd.R k39 39 wc w.heap.size (fun k_ => some k_ ≠ ((.slice Ao15 t267.length co15) : Value).ownBlock) (.slice Ao23 t281.length co23) t281) ∧ Aside0 (Kd.R Kd.string 9 wc w.heap.size (fun k_ => some k_ ≠ ((.slice Ao17 t270.length co17) : Value).ownBlock) (.slice Ao26 t284.length co26) t284) ∧ Aside0 (Kd.R (Kd.int .i64) 3 wc w.heap.size (fun k_ => some k_ ≠ ((.slice Ao18 t273.length co18) : Value).ownBlock) (.slice Ao27 t287.length co27) t287) ∧ Aside0 (wc.heap[gb277]? = some (.cells #[(.slice Ao15 t267.length co15), (.slice Ao17 t270.length co17), (.slice Ao18 t273.length co18)] 31 (0, 0))) ∧ Aside0 (wc.heap[gb291]? = some (.cells #[(.slice Ao23 t281.length co23), (.slice Ao26 t284.length co26), (.slice Ao27 t287.length co27)] 31 (0, 0))) ∧ Aside0 (Below w.heap.size w wc))
 case first =>
  have H := HC9.out
  clear HC9
  replace H := Option.bind_eq_some_iff.mp H
  obtain ⟨t292, A280, H⟩ := H
  replace H : (if t292 = true then (laws_FnExactLedgerOf.j0 k l0 t276 t278 t290 (t290 != t276) t267 t270 t273 t281 t284 t287) else (laws_FnExactLedgerOf.j0 k l0 t276 t278 t290 true t267 t270 t273 t281 t284 t287)) = some r := H
  have A28 := zb A280
  clear A280
  by_cases c29 : t292 = true
  ·subst c29
   have H1 : (laws_FnExactLedgerOf.j0 k l0 t276 t278 t290 (t290 != t276) t267 t270 t273 t281 t284 t287) = some r := by rw [if_pos rfl] at H; exact H
   clear H
   have H := H1
   clear H1
   have H' := zb H
   clear H
   have hnb30 := NB291_277.out
   have hnc30 := NB277_291.out
   have hcz31_0 : w22.cell? ⟨gb291, 0, none⟩ = some (.slice none 0 0) := (q17a BK291.out 0).trans rfl
   have hcz31_1 : w22.cell? ⟨gb291, 1, none⟩ = some (.slice none 0 0) := (q17a BK291.out 1).trans rfl
   have hcz31_2 : w22.cell? ⟨gb291, 2, none⟩ = some (.slice none 0 0) := (q17a BK291.out 2).trans rfl
   have hfz31_0 := zd BK291.out 0
   have hfz31_1 := zd BK291.out 1
   have hfz31_2 := zd BK291.out 2
   have hcz32_0 : w22.cell? ⟨gb277, 0, none⟩ = some (.slice Ao15 t267.length co15) := (q17a BK277.out 0).trans rfl
   have hcz32_1 : w22.cell? ⟨gb277, 1, none⟩ = some (.slice Ao17 t270.length co17) := (q17a BK277.out 1).trans rfl
   have hcz32_2 : w22.cell? ⟨gb277, 2, none⟩ = some (.slice Ao18 t273.length co18) := (q17a BK277.out 2).trans rfl
   have hfz32_0 := zd BK277.out 0
   have hfz32_1 := zd BK277.out 1
   have hfz32_2 := zd BK277.out 2
   go_wp2_with (first | ((with_reducible refine gate_callee (f := 13) rfl ?_); refine goesL_ (some 34) rfl rfl Try.func13 zG75 rfl #[.agg #[.slice Ao23 t281.length co23, .slice Ao26 t284.length co26, .slice Ao27 t287.length co27], .agg #[.slice Ao15 t267.length co15, .slice Ao17 t270.length co17, .slice Ao18 t273.length co18]] rfl zG55 ?_; (with_reducible refine (laws_eqLedger.calls k _ _ t281 _ _ t284 _ _ t287 _ _ t267 _ _ t270 _ _ t273 true _ ?side1 ?side2 ?side3 ?side4 ?side5 ?side6 ?side7 ?side8 ?side9 ?side10 ?side11 ?side12 A28.out).mono ?_); (case side1 => exact zH7); (case side2 => exact (Kd.R_reads' HO283.out).2.1); (case side3 => exact zH11); (case side4 => exact (Kd.R_reads' HO286.out).2.1); (case side5 => exact zH9); (case side6 => exact (Kd.R_reads' HO289.out).2.1); (case side7 => exact zH8); (case side8 => exact (Kd.R_reads' HO269.out).2.1); (case side9 => exact zH12); (case side10 => exact (Kd.R_reads' HO272.out).2.1); (case side11 => exact zH10); (case side12 => exact (Kd.R_reads' HO275.out).2.1); rintro e w33 ⟨rfl, hb⟩; refine ⟨_, rfl, ?_⟩; have n_ := zA_ (zb (zo zK127 hb)) (zA_ (zb (zo zK128 hb)) (zA_ (zb (zo zK129 hb)) (zA_ (zb (zo zK130 hb)) (zA_ (zb (zo zK131 hb)) (zA_ (zb (zo zK132 hb)) (zA_ (zb (zo zK133 hb)) (zA_ (zb (zo zK134 hb)) (zA_ (zb (zt (g := gb277) (o := .cells #[.slice Ao15 t267.length co15, .slice Ao17 t270.length co17, .slice Ao18 t273.length co18] 31 (0, 0)) zK116 hb)) (zA_ (zb (zt (g := gb291) (o := .cells #[.slice Ao23 t281.length co23, .slice Ao26 t284.length co26, .slice Ao27 t287.length co27] 31 (0, 0)) zK110 hb)) (zb (zr zG54 hb))))))))))); clear HO266 HO269 HO272 HO275 HO280 HO283 HO286 HO289 BK277 BK291 HB; obtain ⟨HO266, HO269, HO272, HO275, HO280, HO283, HO286, HO289, BK277, BK291, HB⟩ := n_; (try clear hb); (try clear hk)))
   go_meet
   case rel => exact ⟨_, ((t290 != t276)), zG74, H', ⟨zH102⟩, ⟨zH74⟩, ⟨zH76⟩, ⟨zH77⟩, ⟨zH78⟩, ⟨zH79⟩, ⟨zH80⟩, ⟨zH81⟩, ⟨zH85⟩, ⟨zH86⟩, ⟨zH42⟩⟩
  replace c29 := Bool.eq_false_iff.mpr c29
  subst c29
  have H1 : (laws_FnExactLedgerOf.j0 k l0 t276 t278 t290 true t267 t270 t273 t281 t284 t287) = some r := by rw [if_neg (show ¬ (false = true) by decide)] at H; exact H
  clear H
  have H := H1
  clear H1
  have H' := zb H
  clear H
  have hnb34 := NB291_277.out
  have hnc34 := NB277_291.out
  have hcz35_0 : w22.cell? ⟨gb291, 0, none⟩ = some (.slice none 0 0) := (q17a BK291.out 0).trans rfl
  have hcz35_1 : w22.cell? ⟨gb291, 1, none⟩ = some (.slice none 0 0) := (q17a BK291.out 1).trans rfl
  have hcz35_2 : w22.cell? ⟨gb291, 2, none⟩ = some (.slice none 0 0) := (q17a BK291.out 2).trans rfl
  have hfz35_0 := zd BK291.out 0
  have hfz35_1 := zd BK291.out 1
  have hfz35_2 := zd BK291.out 2
  have hcz36_0 : w22.cell? ⟨gb277, 0, none⟩ = some (.slice Ao15 t267.length co15) := (q17a BK277.out 0).trans rfl
  have hcz36_1 : w22.cell? ⟨gb277, 1, none⟩ = some (.slice Ao17 t270.length co17) := (q17a BK277.out 1).trans rfl
  have hcz36_2 : w22.cell? ⟨gb277, 2, none⟩ = some (.slice Ao18 t273.length co18) := (q17a BK277.out 2).trans rfl
  have hfz36_0 := zd BK277.out 0
  have hfz36_1 := zd BK277.out 1
  have hfz36_2 := zd BK277.out 2
  go_wp2_with (first | ((with_reducible refine gate_callee (f := 13) rfl ?_); refine goesL_ (some 34) rfl rfl Try.func13 zG75 rfl #[.agg #[.slice Ao23 t281.length co23, .slice Ao26 t284.length co26, .slice Ao27 t287.length co27], .agg #[.slice Ao15 t267.length co15, .slice Ao17 t270.length co17, .slice Ao18 t273.length co18]] rfl zG55 ?_; (with_reducible refine (laws_eqLedger.calls k _ _ t281 _ _ t284 _ _ t287 _ _ t267 _ _ t270 _ _ t273 false _ ?side1 ?side2 ?side3 ?side4 ?side5 ?side6 ?side7 ?side8 ?side9 ?side10 ?side11 ?side12 A28.out).mono ?_); (case side1 => exact zH7); (case side2 => exact (Kd.R_reads' HO283.out).2.1); (case side3 => exact zH11); (case side4 => exact (Kd.R_reads' HO286.out).2.1); (case side5 => exact zH9); (case side6 => exact (Kd.R_reads' HO289.out).2.1); (case side7 => exact zH8); (case side8 => exact (Kd.R_reads' HO269.out).2.1); (case side9 => exact zH12); (case side10 => exact (Kd.R_reads' HO272.out).2.1); (case side11 => exact zH10); (case side12 => exact (Kd.R_reads' HO275.out).2.1); rintro e w37 ⟨rfl, hb⟩; refine ⟨_, rfl, ?_⟩; have n_ := zA_ (zb (zo zK127 hb)) (zA_ (zb (zo zK128 hb)) (zA_ (zb (zo zK129 hb)) (zA_ (zb (zo zK130 hb)) (zA_ (zb (zo zK131 hb)) (zA_ (zb (zo zK132 hb)) (zA_ (zb (zo zK133 hb)) (zA_ (zb (zo zK134 hb)) (zA_ (zb (zt (g := gb277) (o := .cells #[.slice Ao15 t267.length co15, .slice Ao17 t270.length co17, .slice Ao18 t273.length co18] 31 (0, 0)) zK116 hb)) (zA_ (zb (zt (g := gb291) (o := .cells #[.slice Ao23 t281.length co23, .slice Ao26 t284.length co26, .slice Ao27 t287.length co27] 31 (0, 0)) zK110 hb)) (zb (zr zG54 hb))))))))))); clear HO266 HO269 HO272 HO275 HO280 HO283 HO286 HO289 BK277 BK291 HB; obtain ⟨HO266, HO269, HO272, HO275, HO280, HO283, HO286, HO289, BK277, BK291, HB⟩ := n_; (try clear hb); (try clear hk)))
  go_meet
  case rel => exact ⟨_, (true), zG74, H', ⟨zH102⟩, ⟨zH74⟩, ⟨zH76⟩, ⟨zH77⟩, ⟨zH78⟩, ⟨zH79⟩, ⟨zH80⟩, ⟨zH81⟩, ⟨zH85⟩, ⟨zH86⟩, ⟨zH42⟩⟩
 case rest =>
  clear HC9
  try clear c3
  try clear c3b0
  try clear c29
  try clear hcz16_0
  try clear hcz16_1
  try clear hcz16_2
  try clear hcz25_0
  try clear hcz25_1
  try clear hcz25_2
  try clear hcz31_0
  try clear hcz31_1
  try clear hcz31_2
  try clear hcz32_0
  try clear hcz32_1
  try clear hcz32_2
  try clear hcz35_0
  try clear hcz35_1
  try clear hcz35_2
  try clear hcz36_0
  try clear hcz36_1
  try clear hcz36_2
  try clear hfz16_0
  try clear hfz16_1
  try clear hfz16_2
  try clear hfz25_0
  try clear hfz25_1
  try clear hfz25_2
  try clear hfz31_0
  try clear hfz31_1
  try clear hfz31_2
  try clear hfz32_0
  try clear hfz32_1
  try clear hfz32_2
  try clear hfz35_0
  try clear hfz35_1
  try clear hfz35_2
  try clear hfz36_0
  try clear hfz36_1
  try clear hfz36_2
  obtain ⟨kq, x40_8, rfl, HA, HJ8, HO_6, HO_278000, HO_278001, HO_278002, HO_292000, HO_292001, HO_292002, BK277, BK291, HB⟩ := hcut
  cases kq with
  | zero => exact absurd HA.out (by simp [laws_FnExactLedgerOf.j0])
  | succ kj8 =>
   have H := HA.out
   clear HA
   simp only [laws_FnExactLedgerOf.j0] at H
   by_cases c38 : x40_8 = true
   ·subst c38
    have H1 : (some false) = some r := by rw [if_pos rfl] at H; exact H
    clear H
    have H := H1
    clear H1
    obtain rfl := Option.some.inj H
    go_wp2
    go_ret
    exact zH23
   replace c38 := Bool.eq_false_iff.mpr c38
   subst c38
   have H1 : ((laws_toEventS.f kj8 l0).bind fun t293 => ((laws_eqEventS.f kj8 t278 t293).bind fun t296 => (if t296 = true then ((laws_markEventS.f kj8 t278 1).bind fun bt297 => (if bt297.1 < 0 then (laws_FnExactLedgerOf.j1 kj8 l0 t276 true t267 t270 t273 t281 t284 t287) else ((laws_eqLedger.f kj8 t281 t284 t287 t267 t270 t273).bind fun t299 => (if t299 = true then (laws_FnExactLedgerOf.j1 kj8 l0 t276 (t290 != t276) t267 t270 t273 t281 t284 t287) else (laws_FnExactLedgerOf.j1 kj8 l0 t276 true t267 t270 t273 t281 t284 t287))))) else (some false)))) = some r := by rw [if_neg (show ¬ (false = true) by decide)] at H; exact H
   clear H
   have H := H1
   clear H1
   replace H := Option.bind_eq_some_iff.mp H
   obtain ⟨t293, A390, H⟩ := H
   replace H : ((laws_eqEventS.f kj8 t278 t293).bind fun t296 => (if t296 = true then ((laws_markEventS.f kj8 t278 1).bind fun bt297 => (if bt297.1 < 0 then (laws_FnExactLedgerOf.j1 kj8 l0 t276 true t267 t270 t273 t281 t284 t287) else ((laws_eqLedger.f kj8 t281 t284 t287 t267 t270 t273).bind fun t299 => (if t299 = true then (laws_FnExactLedgerOf.j1 kj8 l0 t276 (t290 != t276) t267 t270 t273 t281 t284 t287) else (laws_FnExactLedgerOf.j1 kj8 l0 t276 true t267 t270 t273 t281 t284 t287))))) else (some false))) = some r := H
   have A39 := zb A390
   clear A390
   replace H := Option.bind_eq_some_iff.mp H
   obtain ⟨t296, A400, H⟩ := H
   replace H : (if t296 = true then ((laws_markEventS.f kj8 t278 1).bind fun bt297 => (if bt297.1 < 0 then (laws_FnExactLedgerOf.j1 kj8 l0 t276 true t267 t270 t273 t281 t284 t287) else ((laws_eqLedger.f kj8 t281 t284 t287 t267 t270 t273).bind fun t299 => (if t299 = true then (laws_FnExactLedgerOf.j1 kj8 l0 t276 (t290 != t276) t267 t270 t273 t281 t284 t287) else (laws_FnExactLedgerOf.j1 kj8 l0 t276 true t267 t270 t273 t281 t284 t287))))) else (some false)) = some r := H
   have A40 := zb A400
   clear A400
   by_cases c41 : t296 = true
   rotate_left
   ·replace c41 := Bool.eq_false_iff.mpr c41
    subst c41
    have H1 : (some false) = some r := by rw [if_neg (show ¬ (false = true) by decide)] at H; exact H
    clear H
    have H := H1
    clear H1
    obtain rfl := Option.some.inj H
    go_wp2_with (first | ((with_reducible refine gate_callee (f := 12) rfl ?_); refine goesL_ (some 43) rfl rfl Try.func12 zG75 rfl #[.slice A0 l0.length c0] rfl zG55 ?_; (with_reducible refine (laws_toEventS.calls kj8 _ _ l0 t293 _ ?side1 ?side2 A39.out).mono ?_); (case side1 => exact zH57); (case side2 => exact HC0.out); rintro e w122 ⟨v294, rfl, ho0, hb⟩; refine ⟨_, rfl, ?_⟩; have n_ := zA_ (zb (zak zK174 (zap ho0) hb)) (zA_ (zb (zo zG68 hb)) (zA_ (zb (zo zG69 hb)) (zA_ (zb (zo zG70 hb)) (zA_ (zb (zo zG71 hb)) (zA_ (zb (zo zG72 hb)) (zA_ (zb (zo zG73 hb)) (zA_ (zb (zah (zaq ho0 (zau zK174)) (zq zG54))) (zA_ (zb (zt (g := gb277) (o := .cells #[.slice Ao15 t267.length co15, .slice Ao17 t270.length co17, .slice Ao18 t273.length co18] 31 (0, 0)) zG62 hb)) (zA_ (zb (zt (g := gb291) (o := .cells #[.slice Ao23 t281.length co23, .slice Ao26 t284.length co26, .slice Ao27 t287.length co27] 31 (0, 0)) zG63 hb)) (zb (zr zG54 hb))))))))))); clear HO_6 HO_278000 HO_278001 HO_278002 HO_292000 HO_292001 HO_292002 BK277 BK291 HB; obtain ⟨HO_6, HO_278000, HO_278001, HO_278002, HO_292000, HO_292001, HO_292002, HO295, BK277, BK291, HB⟩ := n_; (try clear hb); (try clear ho0); obtain ⟨Ao123, co123, eo123⟩ := zy HO295.out; subst eo123) | ((with_reducible refine gate_callee (f := 14) rfl ?_); refine goesL_ (some 44) rfl rfl Try.func14 zG75 rfl #[.slice Ao20 t278.length co20, .slice Ao123 t293.length co123] rfl zG55 ?_; (with_reducible refine (laws_eqEventS.calls kj8 _ _ t278 _ _ t293 false _ ?side1 ?side2 ?side3 ?side4 A40.out).mono ?_); (case side1 => exact zH51); (case side2 => exact (Kd.R_reads' HO_6.out).2.1); (case side3 => exact zH50); (case side4 => exact (Kd.R_reads' HO295.out).2.1); rintro e w124 ⟨rfl, hb⟩; refine ⟨_, rfl, ?_⟩; have n_ := zA_ (zb (zo zK174 hb)) (zA_ (zb (zo zG68 hb)) (zA_ (zb (zo zG69 hb)) (zA_ (zb (zo zG70 hb)) (zA_ (zb (zo zG71 hb)) (zA_ (zb (zo zG72 hb)) (zA_ (zb (zo zG73 hb)) (zA_ (zb (zo zK173 hb)) (zA_ (zb (zt (g := gb277) (o := .cells #[.slice Ao15 t267.length co15, .slice Ao17 t270.length co17, .slice Ao18 t273.length co18] 31 (0, 0)) zG62 hb)) (zA_ (zb (zt (g := gb291) (o := .cells #[.slice Ao23 t281.length co23, .slice Ao26 t284.length co26, .slice Ao27 t287.length co27] 31 (0, 0)) zG63 hb)) (zb (zr zG54 hb))))))))))); clear HO_6 HO_278000 HO_278001 HO_278002 HO_292000 HO_292001 HO_292002 HO295 BK277 BK291 HB; obtain ⟨HO_6, HO_278000, HO_278001, HO_278002, HO_292000, HO_292001, HO_292002, HO295, BK277, BK291, HB⟩ := n_; (try clear hb)))
    go_ret
    exact zH23

   subst c41
   have H1 : ((laws_markEventS.f kj8 t278 1).bind fun bt297 => (if bt297.1 < 0 then (laws_FnExactLedgerOf.j1 kj8 l0 t276 true t267 t270 t273 t281 t284 t287) else ((laws_eqLedger.f kj8 t281 t284 t287 t267 t270 t273).bind fun t299 => (if t299 = true then (laws_FnExactLedgerOf.j1 kj8 l0 t276 (t290 != t276) t267 t270 t273 t281 t284 t287) else (laws_FnExactLedgerOf.j1 kj8 l0 t276 true t267 t270 t273 t281 t284 t287))))) = some r := by rw [if_pos rfl] at H; exact H
   clear H
   have H := H1
   clear H1
   replace H := Option.bind_eq_some_iff.mp H
   obtain ⟨⟨t297, t298⟩, A420, H⟩ := H
   replace H : (if t297 < 0 then (laws_FnExactLedgerOf.j1 kj8 l0 t276 true t267 t270 t273 t281 t284 t287) else ((laws_eqLedger.f kj8 t281 t284 t287 t267 t270 t273).bind fun t299 => (if t299 = true then (laws_FnExactLedgerOf.j1 kj8 l0 t276 (t290 != t276) t267 t270 t273 t281 t284 t287) else (laws_FnExactLedgerOf.j1 kj8 l0 t276 true t267 t270 t273 t281 t284 t287)))) = some r := H
   obtain ⟨A42, HC43⟩ := zD2 A420 H
   clear A420 H
   go_upto_region 14 with (first | ((with_reducible refine gate_callee (f := 12) rfl ?_); refine goesL_ (some 43) rfl rfl Try.func12 zG75 rfl #[.slice A0 l0.length c0] rfl zG55 ?_; (with_reducible refine (laws_toEventS.calls kj8 _ _ l0 t293 _ ?side1 ?side2 A39.out).mono ?_); (case side1 => exact zH57); (case side2 => exact HC0.out); rintro e w44 ⟨v294, rfl, ho0, hb⟩; refine ⟨_, rfl, ?_⟩; have n_ := zA_ (zb (zak zK174 (zap ho0) hb)) (zA_ (zb (zo zG68 hb)) (zA_ (zb (zo zG69 hb)) (zA_ (zb (zo zG70 hb)) (zA_ (zb (zo zG71 hb)) (zA_ (zb (zo zG72 hb)) (zA_ (zb (zo zG73 hb)) (zA_ (zb (zah (zaq ho0 (zau zK174)) (zq zG54))) (zA_ (zb (zt (g := gb277) (o := .cells #[.slice Ao15 t267.length co15, .slice Ao17 t270.length co17, .slice Ao18 t273.length co18] 31 (0, 0)) zG62 hb)) (zA_ (zb (zt (g := gb291) (o := .cells #[.slice Ao23 t281.length co23, .slice Ao26 t284.length co26, .slice Ao27 t287.length co27] 31 (0, 0)) zG63 hb)) (zb (zr zG54 hb))))))))))); clear HO_6 HO_278000 HO_278001 HO_278002 HO_292000 HO_292001 HO_292002 BK277 BK291 HB; obtain ⟨HO_6, HO_278000, HO_278001, HO_278002, HO_292000, HO_292001, HO_292002, HO295, BK277, BK291, HB⟩ := n_; (try clear hb); (try clear ho0); obtain ⟨Ao45, co45, eo45⟩ := zy HO295.out; subst eo45) | ((with_reducible refine gate_callee (f := 14) rfl ?_); refine goesL_ (some 44) rfl rfl Try.func14 zG75 rfl #[.slice Ao20 t278.length co20, .slice Ao45 t293.length co45] rfl zG55 ?_; (with_reducible refine (laws_eqEventS.calls kj8 _ _ t278 _ _ t293 true _ ?side1 ?side2 ?side3 ?side4 A40.out).mono ?_); (case side1 => exact zH51); (case side2 => exact (Kd.R_reads' HO_6.out).2.1); (case side3 => exact zH50); (case side4 => exact (Kd.R_reads' HO295.out).2.1); rintro e w46 ⟨rfl, hb⟩; refine ⟨_, rfl, ?_⟩; have n_ := zA_ (zb (zo zK174 hb)) (zA_ (zb (zo zG68 hb)) (zA_ (zb (zo zG69 hb)) (zA_ (zb (zo zG70 hb)) (zA_ (zb (zo zG71 hb)) (zA_ (zb (zo zG72 hb)) (zA_ (zb (zo zG73 hb)) (zA_ (zb (zo zK173 hb)) (zA_ (zb (zt (g := gb277) (o := .cells #[.slice Ao15 t267.length co15, .slice Ao17 t270.length co17, .slice Ao18 t273.length co18] 31 (0, 0)) zG62 hb)) (zA_ (zb (zt (g := gb291) (o := .cells #[.slice Ao23 t281.length co23, .slice Ao26 t284.length co26, .slice Ao27 t287.length co27] 31 (0, 0)) zG63 hb)) (zb (zr zG54 hb))))))))))); clear HO_6 HO_278000 HO_278001 HO_278002 HO_292000 HO_292001 HO_292002 HO295 BK277 BK291 HB; obtain ⟨HO_6, HO_278000, HO_278001, HO_278002, HO_292000, HO_292001, HO_292002, HO295, BK277, BK291, HB⟩ := n_; (try clear hb)) | ((with_reducible refine gate_callee (f := 15) rfl ?_); refine goesL_ (some 48) rfl rfl Try.func15 zG75 rfl #[.slice Ao20 t278.length co20, .int .i64 1] rfl zG55 ?_; (with_reducible refine (laws_markEventS.calls kj8 (fun k_ => some k_ = (.slice Ao20 t278.length co20 : Value).ownBlock) (.slice Ao20 t278.length co20) t278 1 t297 t298 w _ ?side1 ?side2 A42.out).mono ?_); (case side1 => exact zH49); (case side2 => exact zal rfl HO_6.out); rintro e w47 ⟨rfl, hy0, hb, hkp⟩; refine ⟨_, rfl, ?_⟩; have n_ := zA_ (zb (zao rfl hy0 (fun k_ e_ => HO_6.out.1 k_ e_))) (zA_ (zb (zp (ok' := fun k_ => some k_ ≠ (.slice Ao23 t281.length co23 : Value).ownBlock) (zag ((zad HO_278000.out (zac HO_6.out) zG76)) hkp (fun k_ hk_ hs_ => (hk_.2) hs_)) (fun k_ hk_ => hk_.1.1))) (zA_ (zb (zp (ok' := fun k_ => some k_ ≠ (.slice Ao26 t284.length co26 : Value).ownBlock) (zag ((zad HO_278001.out (zac HO_6.out) zG76)) hkp (fun k_ hk_ hs_ => (hk_.2) hs_)) (fun k_ hk_ => hk_.1.1))) (zA_ (zb (zp (ok' := fun k_ => some k_ ≠ (.slice Ao27 t287.length co27 : Value).ownBlock) (zag ((zad HO_278002.out (zac HO_6.out) zG76)) hkp (fun k_ hk_ hs_ => (hk_.2) hs_)) (fun k_ hk_ => hk_.1.1))) (zA_ (zb (zp (ok' := fun k_ => some k_ ≠ (.slice Ao15 t267.length co15 : Value).ownBlock) (zag ((zad HO_292000.out (zac HO_6.out) zG76)) hkp (fun k_ hk_ hs_ => (hk_.2) hs_)) (fun k_ hk_ => hk_.1.1))) (zA_ (zb (zp (ok' := fun k_ => some k_ ≠ (.slice Ao17 t270.length co17 : Value).ownBlock) (zag ((zad HO_292001.out (zac HO_6.out) zG76)) hkp (fun k_ hk_ hs_ => (hk_.2) hs_)) (fun k_ hk_ => hk_.1.1))) (zA_ (zb (zp (ok' := fun k_ => some k_ ≠ (.slice Ao18 t273.length co18 : Value).ownBlock) (zag ((zad HO_292002.out (zac HO_6.out) zG76)) hkp (fun k_ hk_ hs_ => (hk_.2) hs_)) (fun k_ hk_ => hk_.1.1))) (zA_ (zb (zat zG62 hkp (fun hs_ => (fun e_ => (zae HO_6.out BK277.out zG76) e_) hs_))) (zA_ (zb (zat zG63 hkp (fun hs_ => (fun e_ => (zae HO_6.out BK291.out zG76) e_) hs_))) (zA_ (zb (zp (ok' := fun k_ => some k_ ≠ (.slice Ao20 t278.length co20 : Value).ownBlock) (zag (HO295.out) hkp (fun k_ hk_ hs_ => (hk_.2) hs_)) (fun k_ hk_ => hk_.1.2))) (zb (hb))))))))))); clear HO_6 HO_278000 HO_278001 HO_278002 HO_292000 HO_292001 HO_292002 BK277 BK291 HO295 HB; obtain ⟨HO_6, HO_278000, HO_278001, HO_278002, HO_292000, HO_292001, HO_292002, BK277, BK291, HO295, HB⟩ := n_; (try clear hb); (try clear hkp); (try clear hy0)))
   (try simp only [Act.put, List.setIfInBounds_toArray, List.set_cons_zero, List.set_cons_succ])
   go_cut [61] (fun v61 wc => ∃ (kq : Nat) (x61_42 : Bool), v61 = .bool x61_42 ∧ Aside0 (laws_FnExactLedgerOf.j1 kq l0 t276 x61_42 t267 t270 t273 t281 t284 t287 = some r) ∧ Aside0 (kq ≤ kj8) ∧ Aside0 (Kd.R k39 39 wc w.heap.size (fun k_ => some k_ ≠ ((.slice Ao23 t281.length co23) : Value).ownBlock) (.slice Ao15 t267.length co15) t267) ∧ Aside0 (Kd.R Kd.string 9 wc w.heap.size (fun k_ => some k_ ≠ ((.slice Ao26 t284.length co26) : Value).ownBlock) (.slice Ao17 t270.length co17) t270) ∧ Aside0 (Kd.R (Kd.int .i64) 3 wc w.heap.size (fun k_ => some k_ ≠ ((.slice Ao27 t287.length co27) : Value).ownBlock) (.slice Ao18 t273.length co18) t273) ∧ Aside0 (Kd.R k39 39 wc w.heap.size (fun k_ => some k_ ≠ ((.slice Ao15 t267.length co15) : Value).ownBlock) (.slice Ao23 t281.length co23) t281) ∧ Aside0 (Kd.R Kd.string 9 wc w.heap.size (fun k_ => some k_ ≠ ((.slice Ao17 t270.length co17) : Value).ownBlock) (.slice Ao26 t284.length co26) t284) ∧ Aside0 (Kd.R (Kd.int .i64) 3 wc w.heap.size (fun k_ => some k_ ≠ ((.slice Ao18 t273.length co18) : Value).ownBlock) (.slice Ao27 t287.length co27) t287) ∧ Aside0 (wc.heap[gb277]? = some (.cells #[(.slice Ao15 t267.length co15), (.slice Ao17 t270.length co17), (.slice Ao18 t273.length co18)] 31 (0, 0))) ∧ Aside0 (wc.heap[gb291]? = some (.cells #[(.slice Ao23 t281.length co23), (.slice Ao26 t284.length co26), (.slice Ao27 t287.length co27)] 31 (0, 0))) ∧ Aside0 (Below w.heap.size w wc))
   case first =>
    have H := HC43.out
    clear HC43
    by_cases c48 : t297 < 0
    ·rw [if_pos c48] at H
     have c48b0 := decide_eq_true c48
     clear c48
     (first | rw [c48b0] | (simp only [i64_w, i32_w]; rw [c48b0]) | skip)
     have H' := zb H
     clear H
     go_wp2
     go_meet
     case rel => exact ⟨_, (true), zG74, H', ⟨by have := HJ8.out; first | omega | exact Nat.le_refl _⟩, ⟨zH88⟩, ⟨zH89⟩, ⟨zH90⟩, ⟨zH91⟩, ⟨zH92⟩, ⟨zH93⟩, ⟨zH85⟩, ⟨zH86⟩, ⟨zH42⟩⟩
    rw [if_neg c48] at H
    have c48b0 := decide_eq_false c48
    clear c48
    (first | rw [c48b0] | (simp only [i64_w, i32_w]; rw [c48b0]) | skip)
    replace H := Option.bind_eq_some_iff.mp H
    obtain ⟨t299, A490, H⟩ := H
    replace H : (if t299 = true then (laws_FnExactLedgerOf.j1 kj8 l0 t276 (t290 != t276) t267 t270 t273 t281 t284 t287) else (laws_FnExactLedgerOf.j1 kj8 l0 t276 true t267 t270 t273 t281 t284 t287)) = some r := H
    have A49 := zb A490
    clear A490
    by_cases c50 : t299 = true
    ·subst c50
     have H1 : (laws_FnExactLedgerOf.j1 kj8 l0 t276 (t290 != t276) t267 t270 t273 t281 t284 t287) = some r := by rw [if_pos rfl] at H; exact H
     clear H
     have H := H1
     clear H1
     have H' := zb H
     clear H
     have hnb51 := NB291_277.out
     have hnc51 := NB277_291.out
     have hcz52_0 : w47.cell? ⟨gb291, 0, none⟩ = some (.slice Ao23 t281.length co23) := (q17a BK291.out 0).trans rfl
     have hcz52_1 : w47.cell? ⟨gb291, 1, none⟩ = some (.slice Ao26 t284.length co26) := (q17a BK291.out 1).trans rfl
     have hcz52_2 : w47.cell? ⟨gb291, 2, none⟩ = some (.slice Ao27 t287.length co27) := (q17a BK291.out 2).trans rfl
     have hfz52_0 := zd BK291.out 0
     have hfz52_1 := zd BK291.out 1
     have hfz52_2 := zd BK291.out 2
     have hcz53_0 : w47.cell? ⟨gb277, 0, none⟩ = some (.slice Ao15 t267.length co15) := (q17a BK277.out 0).trans rfl
     have hcz53_1 : w47.cell? ⟨gb277, 1, none⟩ = some (.slice Ao17 t270.length co17) := (q17a BK277.out 1).trans rfl
     have hcz53_2 : w47.cell? ⟨gb277, 2, none⟩ = some (.slice Ao18 t273.length co18) := (q17a BK277.out 2).trans rfl
     have hfz53_0 := zd BK277.out 0
     have hfz53_1 := zd BK277.out 1
     have hfz53_2 := zd BK277.out 2
     go_wp2_with (first | (go_at_call 13; (with_reducible refine (laws_eqLedger.calls kj8 _ _ t281 _ _ t284 _ _ t287 _ _ t267 _ _ t270 _ _ t273 true _ ?side1 ?side2 ?side3 ?side4 ?side5 ?side6 ?side7 ?side8 ?side9 ?side10 ?side11 ?side12 A49.out).mono ?_); (case side1 => exact zH46); (case side2 => exact zH103); (case side3 => exact zH47); (case side4 => exact zH104); (case side5 => exact zH48); (case side6 => exact zH105); (case side7 => exact zH43); (case side8 => exact (Kd.R_reads' HO_278000.out).2.1); (case side9 => exact zH44); (case side10 => exact (Kd.R_reads' HO_278001.out).2.1); (case side11 => exact zH45); (case side12 => exact (Kd.R_reads' HO_278002.out).2.1); rintro e w54 ⟨rfl, hb⟩; have n_ := zA_ (zb (zo zK174 hb)) (zA_ (zb (zo zG68 hb)) (zA_ (zb (zo zG69 hb)) (zA_ (zb (zo zG70 hb)) (zA_ (zb (zo zG71 hb)) (zA_ (zb (zo zG72 hb)) (zA_ (zb (zo zG73 hb)) (zA_ (zb (zo zK173 hb)) (zA_ (zb (zt (g := gb277) (o := .cells #[.slice Ao15 t267.length co15, .slice Ao17 t270.length co17, .slice Ao18 t273.length co18] 31 (0, 0)) zG62 hb)) (zA_ (zb (zt (g := gb291) (o := .cells #[.slice Ao23 t281.length co23, .slice Ao26 t284.length co26, .slice Ao27 t287.length co27] 31 (0, 0)) zG63 hb)) (zb (zr zG54 hb))))))))))); clear HO_6 HO_278000 HO_278001 HO_278002 HO_292000 HO_292001 HO_292002 HO295 BK277 BK291 HB; obtain ⟨HO_6, HO_278000, HO_278001, HO_278002, HO_292000, HO_292001, HO_292002, HO295, BK277, BK291, HB⟩ := n_; (try clear hb)))
     go_meet
     case rel => exact ⟨_, ((t290 != t276)), zG74, H', ⟨by have := HJ8.out; first | omega | exact Nat.le_refl _⟩, ⟨zH88⟩, ⟨zH89⟩, ⟨zH90⟩, ⟨zH91⟩, ⟨zH92⟩, ⟨zH93⟩, ⟨zH85⟩, ⟨zH86⟩, ⟨zH42⟩⟩
    replace c50 := Bool.eq_false_iff.mpr c50
    subst c50
    have H1 : (laws_FnExactLedgerOf.j1 kj8 l0 t276 true t267 t270 t273 t281 t284 t287) = some r := by rw [if_neg (show ¬ (false = true) by decide)] at H; exact H
    clear H
    have H := H1
    clear H1
    have H' := zb H
    clear H
    have hnb55 := NB291_277.out
    have hnc55 := NB277_291.out
    have hcz56_0 : w47.cell? ⟨gb291, 0, none⟩ = some (.slice Ao23 t281.length co23) := (q17a BK291.out 0).trans rfl
    have hcz56_1 : w47.cell? ⟨gb291, 1, none⟩ = some (.slice Ao26 t284.length co26) := (q17a BK291.out 1).trans rfl
    have hcz56_2 : w47.cell? ⟨gb291, 2, none⟩ = some (.slice Ao27 t287.length co27) := (q17a BK291.out 2).trans rfl
    have hfz56_0 := zd BK291.out 0
    have hfz56_1 := zd BK291.out 1
    have hfz56_2 := zd BK291.out 2
    have hcz57_0 : w47.cell? ⟨gb277, 0, none⟩ = some (.slice Ao15 t267.length co15) := (q17a BK277.out 0).trans rfl
    have hcz57_1 : w47.cell? ⟨gb277, 1, none⟩ = some (.slice Ao17 t270.length co17) := (q17a BK277.out 1).trans rfl
    have hcz57_2 : w47.cell? ⟨gb277, 2, none⟩ = some (.slice Ao18 t273.length co18) := (q17a BK277.out 2).trans rfl
    have hfz57_0 := zd BK277.out 0
    have hfz57_1 := zd BK277.out 1
    have hfz57_2 := zd BK277.out 2
    go_wp2_with (first | (go_at_call 13; (with_reducible refine (laws_eqLedger.calls kj8 _ _ t281 _ _ t284 _ _ t287 _ _ t267 _ _ t270 _ _ t273 false _ ?side1 ?side2 ?side3 ?side4 ?side5 ?side6 ?side7 ?side8 ?side9 ?side10 ?side11 ?side12 A49.out).mono ?_); (case side1 => exact zH46); (case side2 => exact zH103); (case side3 => exact zH47); (case side4 => exact zH104); (case side5 => exact zH48); (case side6 => exact zH105); (case side7 => exact zH43); (case side8 => exact (Kd.R_reads' HO_278000.out).2.1); (case side9 => exact zH44); (case side10 => exact (Kd.R_reads' HO_278001.out).2.1); (case side11 => exact zH45); (case side12 => exact (Kd.R_reads' HO_278002.out).2.1); rintro e w58 ⟨rfl, hb⟩; have n_ := zA_ (zb (zo zK174 hb)) (zA_ (zb (zo zG68 hb)) (zA_ (zb (zo zG69 hb)) (zA_ (zb (zo zG70 hb)) (zA_ (zb (zo zG71 hb)) (zA_ (zb (zo zG72 hb)) (zA_ (zb (zo zG73 hb)) (zA_ (zb (zo zK173 hb)) (zA_ (zb (zt (g := gb277) (o := .cells #[.slice Ao15 t267.length co15, .slice Ao17 t270.length co17, .slice Ao18 t273.length co18] 31 (0, 0)) zG62 hb)) (zA_ (zb (zt (g := gb291) (o := .cells #[.slice Ao23 t281.length co23, .slice Ao26 t284.length co26, .slice Ao27 t287.length co27] 31 (0, 0)) zG63 hb)) (zb (zr zG54 hb))))))))))); clear HO_6 HO_278000 HO_278001 HO_278002 HO_292000 HO_292001 HO_292002 HO295 BK277 BK291 HB; obtain ⟨HO_6, HO_278000, HO_278001, HO_278002, HO_292000, HO_292001, HO_292002, HO295, BK277, BK291, HB⟩ := n_; (try clear hb)))
    go_meet
    case rel => exact ⟨_, (true), zG74, H', ⟨by have := HJ8.out; first | omega | exact Nat.le_refl _⟩, ⟨zH88⟩, ⟨zH89⟩, ⟨zH90⟩, ⟨zH91⟩, ⟨zH92⟩, ⟨zH93⟩, ⟨zH85⟩, ⟨zH86⟩, ⟨zH42⟩⟩
   case rest =>
    clear HC43
    try clear c3
    try clear c3b0
    try clear c29
    try clear c38
    try clear c41
    try clear c48
    try clear c48b0
    try clear c50
    try clear hcz16_0
    try clear hcz16_1
    try clear hcz16_2
    try clear hcz25_0
    try clear hcz25_1
    try clear hcz25_2
    try clear hcz31_0
    try clear hcz31_1
    try clear hcz31_2
    try clear hcz32_0
    try clear hcz32_1
    try clear hcz32_2
    try clear hcz35_0
    try clear hcz35_1
    try clear hcz35_2
    try clear hcz36_0
    try clear hcz36_1
    try clear hcz36_2
    try clear hcz52_0
    try clear hcz52_1
    try clear hcz52_2
    try clear hcz53_0
    try clear hcz53_1
    try clear hcz53_2
    try clear hcz56_0
    try clear hcz56_1
    try clear hcz56_2
    try clear hcz57_0
    try clear hcz57_1
    try clear hcz57_2
    try clear hfz16_0
    try clear hfz16_1
    try clear hfz16_2
    try clear hfz25_0
    try clear hfz25_1
    try clear hfz25_2
    try clear hfz31_0
    try clear hfz31_1
    try clear hfz31_2
    try clear hfz32_0
    try clear hfz32_1
    try clear hfz32_2
    try clear hfz35_0
    try clear hfz35_1
    try clear hfz35_2
    try clear hfz36_0
    try clear hfz36_1
    try clear hfz36_2
    try clear hfz52_0
    try clear hfz52_1
    try clear hfz52_2
    try clear hfz53_0
    try clear hfz53_1
    try clear hfz53_2
    try clear hfz56_0
    try clear hfz56_1
    try clear hfz56_2
    try clear hfz57_0
    try clear hfz57_1
    try clear hfz57_2
    obtain ⟨kq, x61_42, rfl, HA, HJ42, HO_278000, HO_278001, HO_278002, HO_292000, HO_292001, HO_292002, BK277, BK291, HB⟩ := hcut
    cases kq with
    | zero => exact absurd HA.out (by simp [laws_FnExactLedgerOf.j1])
    | succ kj42 =>
     have H := HA.out
     clear HA
     simp only [laws_FnExactLedgerOf.j1] at H
     by_cases c59 : x61_42 = true
     ·subst c59
      have H1 : (some false) = some r := by rw [if_pos rfl] at H; exact H
      clear H
      have H := H1
      clear H1
      obtain rfl := Option.some.inj H
      go_wp2
      go_ret
      exact zH23
     replace c59 := Bool.eq_false_iff.mpr c59
     subst c59
     have H1 : ((laws_markLedger.f kj42 t281 t284 t287 1).bind fun bt300 => ((laws_heldLedger.f kj42 bt300.2.1 bt300.2.2.1 bt300.2.2.2 1).bind fun t304 => (if t304 < 0 then (some false) else (if t304 = bt300.1 then ((laws_toEventS.f kj42 l0).bind fun t305 => ((impl_LedgerOf.f kj42 t305).bind fun bt308 => ((laws_eqLedger.f kj42 bt308.1 bt308.2.1 bt308.2.2.1 t267 t270 t273).bind fun t319 => (if t319 = true then (laws_FnExactLedgerOf.j2 kj42 bt300.1 (bt308.2.2.2 != t276) bt300.2.1 bt300.2.2.1 bt300.2.2.2) else (laws_FnExactLedgerOf.j2 kj42 bt300.1 true bt300.2.1 bt300.2.2.1 bt300.2.2.2))))) else (some false))))) = some r := by rw [if_neg (show ¬ (false = true) by decide)] at H; exact H
     clear H
     have H := H1
     clear H1
     replace H := Option.bind_eq_some_iff.mp H
     obtain ⟨⟨t300, t301, t302, t303⟩, A600, H⟩ := H
     replace H : ((laws_heldLedger.f kj42 t301 t302 t303 1).bind fun t304 => (if t304 < 0 then (some false) else (if t304 = t300 then ((laws_toEventS.f kj42 l0).bind fun t305 => ((impl_LedgerOf.f kj42 t305).bind fun bt308 => ((laws_eqLedger.f kj42 bt308.1 bt308.2.1 bt308.2.2.1 t267 t270 t273).bind fun t319 => (if t319 = true then (laws_FnExactLedgerOf.j2 kj42 t300 (bt308.2.2.2 != t276) t301 t302 t303) else (laws_FnExactLedgerOf.j2 kj42 t300 true t301 t302 t303))))) else (some false)))) = some r := H
     have A60 := zb A600
     clear A600
     replace H := Option.bind_eq_some_iff.mp H
     obtain ⟨t304, A610, H⟩ := H
     replace H : (if t304 < 0 then (some false) else (if t304 = t300 then ((laws_toEventS.f kj42 l0).bind fun t305 => ((impl_LedgerOf.f kj42 t305).bind fun bt308 => ((laws_eqLedger.f kj42 bt308.1 bt308.2.1 bt308.2.2.1 t267 t270 t273).bind fun t319 => (if t319 = true then (laws_FnExactLedgerOf.j2 kj42 t300 (bt308.2.2.2 != t276) t301 t302 t303) else (laws_FnExactLedgerOf.j2 kj42 t300 true t301 t302 t303))))) else (some false))) = some r := H
     have A61 := zb A610
     clear A610
     by_cases c62 : t304 < 0
     ·rw [if_pos c62] at H
      have c62b0 := decide_eq_true c62
      clear c62
      obtain rfl := Option.some.inj H
      have hnb63 := NB291_277.out
      have hnc63 := NB277_291.out
      have hcz64_0 : wc.cell? ⟨gb291, 0, none⟩ = some (.slice Ao23 t281.length co23) := (q17a BK291.out 0).trans rfl
      have hcz64_1 : wc.cell? ⟨gb291, 1, none⟩ = some (.slice Ao26 t284.length co26) := (q17a BK291.out 1).trans rfl
      have hcz64_2 : wc.cell? ⟨gb291, 2, none⟩ = some (.slice Ao27 t287.length co27) := (q17a BK291.out 2).trans rfl
      have hfz64_0 := zd BK291.out 0
      have hfz64_1 := zd BK291.out 1
      have hfz64_2 := zd BK291.out 2
      go_wp2_with (first | ((with_reducible refine gate_callee (f := 16) rfl ?_); refine goesL_ (some 64) rfl rfl Try.func16 zG75 rfl #[.agg #[.slice Ao23 t281.length co23, .slice Ao26 t284.length co26, .slice Ao27 t287.length co27], .int .i64 1] rfl zG55 ?_; (with_reducible refine (laws_markLedger.calls kj42 (fun k_ => some k_ = (.slice Ao23 t281.length co23 : Value).ownBlock) (.slice Ao23 t281.length co23) t281 (fun k_ => some k_ = (.slice Ao26 t284.length co26 : Value).ownBlock) (.slice Ao26 t284.length co26) t284 (fun k_ => some k_ = (.slice Ao27 t287.length co27 : Value).ownBlock) (.slice Ao27 t287.length co27) t287 1 t300 t301 t302 t303 w _ ?side1 ?side2 ?side3 ?side4 A60.out).mono ?_); (case side1 => exact zH49); (case side2 => exact zal rfl HO_292000.out); (case side3 => exact zal rfl HO_292001.out); (case side4 => exact zal rfl HO_292002.out); rintro e w65 ⟨rfl, hy0, hy1, hy2, hb, hkp⟩; refine ⟨_, rfl, ?_⟩; have n_ := zA_ (zb (zp (ok' := fun k_ => some k_ ≠ (.slice Ao23 t281.length co23 : Value).ownBlock) (zag ((zad (zad HO_278000.out (zac HO_292001.out) zG76) (zac HO_292002.out) zG76)) hkp (fun k_ hk_ hs_ => Or.elim hs_ (fun e_ => (hk_.1.1) e_) (fun e_ => Or.elim e_ (fun e_ => (hk_.1.2) e_) (fun e_ => (hk_.2) e_)))) (fun k_ hk_ => hk_.1.1.1))) (zA_ (zb (zp (ok' := fun k_ => some k_ ≠ (.slice Ao26 t284.length co26 : Value).ownBlock) (zag ((zad (zad HO_278001.out (zac HO_292000.out) zG76) (zac HO_292002.out) zG76)) hkp (fun k_ hk_ hs_ => Or.elim hs_ (fun e_ => (hk_.1.2) e_) (fun e_ => Or.elim e_ (fun e_ => (hk_.1.1) e_) (fun e_ => (hk_.2) e_)))) (fun k_ hk_ => hk_.1.1.1))) (zA_ (zb (zp (ok' := fun k_ => some k_ ≠ (.slice Ao27 t287.length co27 : Value).ownBlock) (zag ((zad (zad HO_278002.out (zac HO_292000.out) zG76) (zac HO_292001.out) zG76)) hkp (fun k_ hk_ hs_ => Or.elim hs_ (fun e_ => (hk_.1.2) e_) (fun e_ => Or.elim e_ (fun e_ => (hk_.2) e_) (fun e_ => (hk_.1.1) e_)))) (fun k_ hk_ => hk_.1.1.1))) (zA_ (zb (zao rfl hy0 (fun k_ e_ => HO_292000.out.1 k_ e_))) (zA_ (zb (zao rfl hy1 (fun k_ e_ => HO_292001.out.1 k_ e_))) (zA_ (zb (zao rfl hy2 (fun k_ e_ => HO_292002.out.1 k_ e_))) (zA_ (zb (zat zG62 hkp (fun hs_ => Or.elim hs_ (fun e_ => (fun e_ => (zae HO_292000.out BK277.out zG76) e_) e_) (fun e_ => Or.elim e_ (fun e_ => (fun e_ => (zae HO_292001.out BK277.out zG76) e_) e_) (fun e_ => (fun e_ => (zae HO_292002.out BK277.out zG76) e_) e_))))) (zA_ (zb (zat zG63 hkp (fun hs_ => Or.elim hs_ (fun e_ => (fun e_ => (zae HO_292000.out BK291.out zG76) e_) e_) (fun e_ => Or.elim e_ (fun e_ => (fun e_ => (zae HO_292001.out BK291.out zG76) e_) e_) (fun e_ => (fun e_ => (zae HO_292002.out BK291.out zG76) e_) e_))))) (zb (hb))))))))); clear HO_278000 HO_278001 HO_278002 HO_292000 HO_292001 HO_292002 BK277 BK291 HB; obtain ⟨HO_278000, HO_278001, HO_278002, HO_292000, HO_292001, HO_292002, BK277, BK291, HB⟩ := n_; (try clear hb); (try clear hkp); (try clear hy0); (try clear hy1); (try clear hy2); have hcz66_0 : w65.cell? ⟨gb291, 0, none⟩ = some (.slice Ao23 t281.length co23) := (q17a BK291.out 0).trans rfl; have hcz66_1 : w65.cell? ⟨gb291, 1, none⟩ = some (.slice Ao26 t284.length co26) := (q17a BK291.out 1).trans rfl; have hcz66_2 : w65.cell? ⟨gb291, 2, none⟩ = some (.slice Ao27 t287.length co27) := (q17a BK291.out 2).trans rfl; have hfz66_0 := zd BK291.out 0; have hfz66_1 := zd BK291.out 1; have hfz66_2 := zd BK291.out 2) | ((with_reducible refine gate_callee (f := 17) rfl ?_); refine goesL_ (some 67) rfl rfl Try.func17 zG75 rfl #[.agg #[.slice Ao23 t301.length co23, .slice Ao26 t302.length co26, .slice Ao27 t303.length co27], .int .i64 1] rfl zK119 ?_; (with_reducible refine (laws_heldLedger.calls kj42 _ _ t301 _ _ t302 _ _ t303 1 t304 _ ?side1 ?side2 ?side3 ?side4 ?side5 ?side6 A61.out).mono ?_); (case side1 => exact zH46); (case side2 => exact zH71); (case side3 => exact zH47); (case side4 => exact zH72); (case side5 => exact zH48); (case side6 => exact zH73); rintro e w67 ⟨rfl, hb⟩; refine ⟨_, rfl, ?_⟩; have n_ := zA_ (zb (zo zG68 hb)) (zA_ (zb (zo zG69 hb)) (zA_ (zb (zo zG70 hb)) (zA_ (zb (zo zG71 hb)) (zA_ (zb (zo zG72 hb)) (zA_ (zb (zo zG73 hb)) (zA_ (zb (zt (g := gb277) (o := .cells #[.slice Ao15 t267.length co15, .slice Ao17 t270.length co17, .slice Ao18 t273.length co18] 31 (0, 0)) zG62 hb)) (zA_ (zb (zt (g := gb291) (o := .cells #[.slice Ao23 t281.length co23, .slice Ao26 t284.length co26, .slice Ao27 t287.length co27] 31 (0, 0)) zG63 hb)) (zb (zr zG54 hb))))))))); clear HO_278000 HO_278001 HO_278002 HO_292000 HO_292001 HO_292002 BK277 BK291 HB; obtain ⟨HO_278000, HO_278001, HO_278002, HO_292000, HO_292001, HO_292002, BK277, BK291, HB⟩ := n_; (try clear hb)))
      go_ret
      exact zH23
     rw [if_neg c62] at H
     have c62b0 := decide_eq_false c62
     clear c62
     by_cases c68 : t304 = t300
     rotate_left
     ·rw [if_neg c68] at H
      have c68b0 : (t304 == t300) = false := beq_eq_false_iff_ne.mpr c68
      have c68b1 : (t304 != t300) = true := bne_iff_ne.mpr c68
      obtain rfl := Option.some.inj H
      have hnb117 := NB291_277.out
      have hnc117 := NB277_291.out
      have hcz118_0 : wc.cell? ⟨gb291, 0, none⟩ = some (.slice Ao23 t281.length co23) := (q17a BK291.out 0).trans rfl
      have hcz118_1 : wc.cell? ⟨gb291, 1, none⟩ = some (.slice Ao26 t284.length co26) := (q17a BK291.out 1).trans rfl
      have hcz118_2 : wc.cell? ⟨gb291, 2, none⟩ = some (.slice Ao27 t287.length co27) := (q17a BK291.out 2).trans rfl
      have hfz118_0 := zd BK291.out 0
      have hfz118_1 := zd BK291.out 1
      have hfz118_2 := zd BK291.out 2
      go_wp2_with (first | ((with_reducible refine gate_callee (f := 16) rfl ?_); refine goesL_ (some 64) rfl rfl Try.func16 zG75 rfl #[.agg #[.slice Ao23 t281.length co23, .slice Ao26 t284.length co26, .slice Ao27 t287.length co27], .int .i64 1] rfl zG55 ?_; (with_reducible refine (laws_markLedger.calls kj42 (fun k_ => some k_ = (.slice Ao23 t281.length co23 : Value).ownBlock) (.slice Ao23 t281.length co23) t281 (fun k_ => some k_ = (.slice Ao26 t284.length co26 : Value).ownBlock) (.slice Ao26 t284.length co26) t284 (fun k_ => some k_ = (.slice Ao27 t287.length co27 : Value).ownBlock) (.slice Ao27 t287.length co27) t287 1 t300 t301 t302 t303 w _ ?side1 ?side2 ?side3 ?side4 A60.out).mono ?_); (case side1 => exact zH49); (case side2 => exact zal rfl HO_292000.out); (case side3 => exact zal rfl HO_292001.out); (case side4 => exact zal rfl HO_292002.out); rintro e w119 ⟨rfl, hy0, hy1, hy2, hb, hkp⟩; refine ⟨_, rfl, ?_⟩; have n_ := zA_ (zb (zp (ok' := fun k_ => some k_ ≠ (.slice Ao23 t281.length co23 : Value).ownBlock) (zag ((zad (zad HO_278000.out (zac HO_292001.out) zG76) (zac HO_292002.out) zG76)) hkp (fun k_ hk_ hs_ => Or.elim hs_ (fun e_ => (hk_.1.1) e_) (fun e_ => Or.elim e_ (fun e_ => (hk_.1.2) e_) (fun e_ => (hk_.2) e_)))) (fun k_ hk_ => hk_.1.1.1))) (zA_ (zb (zp (ok' := fun k_ => some k_ ≠ (.slice Ao26 t284.length co26 : Value).ownBlock) (zag ((zad (zad HO_278001.out (zac HO_292000.out) zG76) (zac HO_292002.out) zG76)) hkp (fun k_ hk_ hs_ => Or.elim hs_ (fun e_ => (hk_.1.2) e_) (fun e_ => Or.elim e_ (fun e_ => (hk_.1.1) e_) (fun e_ => (hk_.2) e_)))) (fun k_ hk_ => hk_.1.1.1))) (zA_ (zb (zp (ok' := fun k_ => some k_ ≠ (.slice Ao27 t287.length co27 : Value).ownBlock) (zag ((zad (zad HO_278002.out (zac HO_292000.out) zG76) (zac HO_292001.out) zG76)) hkp (fun k_ hk_ hs_ => Or.elim hs_ (fun e_ => (hk_.1.2) e_) (fun e_ => Or.elim e_ (fun e_ => (hk_.2) e_) (fun e_ => (hk_.1.1) e_)))) (fun k_ hk_ => hk_.1.1.1))) (zA_ (zb (zao rfl hy0 (fun k_ e_ => HO_292000.out.1 k_ e_))) (zA_ (zb (zao rfl hy1 (fun k_ e_ => HO_292001.out.1 k_ e_))) (zA_ (zb (zao rfl hy2 (fun k_ e_ => HO_292002.out.1 k_ e_))) (zA_ (zb (zat zG62 hkp (fun hs_ => Or.elim hs_ (fun e_ => (fun e_ => (zae HO_292000.out BK277.out zG76) e_) e_) (fun e_ => Or.elim e_ (fun e_ => (fun e_ => (zae HO_292001.out BK277.out zG76) e_) e_) (fun e_ => (fun e_ => (zae HO_292002.out BK277.out zG76) e_) e_))))) (zA_ (zb (zat zG63 hkp (fun hs_ => Or.elim hs_ (fun e_ => (fun e_ => (zae HO_292000.out BK291.out zG76) e_) e_) (fun e_ => Or.elim e_ (fun e_ => (fun e_ => (zae HO_292001.out BK291.out zG76) e_) e_) (fun e_ => (fun e_ => (zae HO_292002.out BK291.out zG76) e_) e_))))) (zb (hb))))))))); clear HO_278000 HO_278001 HO_278002 HO_292000 HO_292001 HO_292002 BK277 BK291 HB; obtain ⟨HO_278000, HO_278001, HO_278002, HO_292000, HO_292001, HO_292002, BK277, BK291, HB⟩ := n_; (try clear hb); (try clear hkp); (try clear hy0); (try clear hy1); (try clear hy2); have hcz120_0 : w119.cell? ⟨gb291, 0, none⟩ = some (.slice Ao23 t281.length co23) := (q17a BK291.out 0).trans rfl; have hcz120_1 : w119.cell? ⟨gb291, 1, none⟩ = some (.slice Ao26 t284.length co26) := (q17a BK291.out 1).trans rfl; have hcz120_2 : w119.cell? ⟨gb291, 2, none⟩ = some (.slice Ao27 t287.length co27) := (q17a BK291.out 2).trans rfl; have hfz120_0 := zd BK291.out 0; have hfz120_1 := zd BK291.out 1; have hfz120_2 := zd BK291.out 2) | ((with_reducible refine gate_callee (f := 17) rfl ?_); refine goesL_ (some 67) rfl rfl Try.func17 zG75 rfl #[.agg #[.slice Ao23 t301.length co23, .slice Ao26 t302.length co26, .slice Ao27 t303.length co27], .int .i64 1] rfl zK119 ?_; (with_reducible refine (laws_heldLedger.calls kj42 _ _ t301 _ _ t302 _ _ t303 1 t304 _ ?side1 ?side2 ?side3 ?side4 ?side5 ?side6 A61.out).mono ?_); (case side1 => exact zH46); (case side2 => exact zH71); (case side3 => exact zH47); (case side4 => exact zH72); (case side5 => exact zH48); (case side6 => exact zH73); rintro e w121 ⟨rfl, hb⟩; refine ⟨_, rfl, ?_⟩; have n_ := zA_ (zb (zo zG68 hb)) (zA_ (zb (zo zG69 hb)) (zA_ (zb (zo zG70 hb)) (zA_ (zb (zo zG71 hb)) (zA_ (zb (zo zG72 hb)) (zA_ (zb (zo zG73 hb)) (zA_ (zb (zt (g := gb277) (o := .cells #[.slice Ao15 t267.length co15, .slice Ao17 t270.length co17, .slice Ao18 t273.length co18] 31 (0, 0)) zG62 hb)) (zA_ (zb (zt (g := gb291) (o := .cells #[.slice Ao23 t281.length co23, .slice Ao26 t284.length co26, .slice Ao27 t287.length co27] 31 (0, 0)) zG63 hb)) (zb (zr zG54 hb))))))))); clear HO_278000 HO_278001 HO_278002 HO_292000 HO_292001 HO_292002 BK277 BK291 HB; obtain ⟨HO_278000, HO_278001, HO_278002, HO_292000, HO_292001, HO_292002, BK277, BK291, HB⟩ := n_; (try clear hb)))
      go_ret
      exact zH23
     rw [if_pos c68] at H
     have c68b0 : (t304 == t300) = true := beq_iff_eq.mpr c68
     have c68b1 : (t304 != t300) = false := bne_eq_false_iff_eq.mpr c68
     clear c68
     replace H := Option.bind_eq_some_iff.mp H
     obtain ⟨t305, A690, H⟩ := H
     replace H : ((impl_LedgerOf.f kj42 t305).bind fun bt308 => ((laws_eqLedger.f kj42 bt308.1 bt308.2.1 bt308.2.2.1 t267 t270 t273).bind fun t319 => (if t319 = true then (laws_FnExactLedgerOf.j2 kj42 t300 (bt308.2.2.2 != t276) t301 t302 t303) else (laws_FnExactLedgerOf.j2 kj42 t300 true t301 t302 t303)))) = some r := H
     have A69 := zb A690
     clear A690
     replace H := Option.bind_eq_some_iff.mp H
     obtain ⟨⟨t308, t311, t314, t317⟩, A700, H⟩ := H
     replace H : ((laws_eqLedger.f kj42 t308 t311 t314 t267 t270 t273).bind fun t319 => (if t319 = true then (laws_FnExactLedgerOf.j2 kj42 t300 (t317 != t276) t301 t302 t303) else (laws_FnExactLedgerOf.j2 kj42 t300 true t301 t302 t303))) = some r := H
     obtain ⟨A70, HC71⟩ := zD2 A700 H
     clear A700 H
     have hnb72 := NB291_277.out
     have hnc72 := NB277_291.out
     have hcz73_0 : wc.cell? ⟨gb291, 0, none⟩ = some (.slice Ao23 t281.length co23) := (q17a BK291.out 0).trans rfl
     have hcz73_1 : wc.cell? ⟨gb291, 1, none⟩ = some (.slice Ao26 t284.length co26) := (q17a BK291.out 1).trans rfl
     have hcz73_2 : wc.cell? ⟨gb291, 2, none⟩ = some (.slice Ao27 t287.length co27) := (q17a BK291.out 2).trans rfl
     have hfz73_0 := zd BK291.out 0
     have hfz73_1 := zd BK291.out 1
     have hfz73_2 := zd BK291.out 2
     go_upto_region 25 with (first | ((with_reducible refine gate_callee (f := 16) rfl ?_); refine goesL_ (some 64) rfl rfl Try.func16 zG75 rfl #[.agg #[.slice Ao23 t281.length co23, .slice Ao26 t284.length co26, .slice Ao27 t287.length co27], .int .i64 1] rfl zG55 ?_; (with_reducible refine (laws_markLedger.calls kj42 (fun k_ => some k_ = (.slice Ao23 t281.length co23 : Value).ownBlock) (.slice Ao23 t281.length co23) t281 (fun k_ => some k_ = (.slice Ao26 t284.length co26 : Value).ownBlock) (.slice Ao26 t284.length co26) t284 (fun k_ => some k_ = (.slice Ao27 t287.length co27 : Value).ownBlock) (.slice Ao27 t287.length co27) t287 1 t300 t301 t302 t303 w _ ?side1 ?side2 ?side3 ?side4 A60.out).mono ?_); (case side1 => exact zH49); (case side2 => exact zal rfl HO_292000.out); (case side3 => exact zal rfl HO_292001.out); (case side4 => exact zal rfl HO_292002.out); rintro e w74 ⟨rfl, hy0, hy1, hy2, hb, hkp⟩; refine ⟨_, rfl, ?_⟩; have n_ := zA_ (zb (zp (ok' := fun k_ => some k_ ≠ (.slice Ao23 t281.length co23 : Value).ownBlock) (zag ((zad (zad HO_278000.out (zac HO_292001.out) zG76) (zac HO_292002.out) zG76)) hkp (fun k_ hk_ hs_ => Or.elim hs_ (fun e_ => (hk_.1.1) e_) (fun e_ => Or.elim e_ (fun e_ => (hk_.1.2) e_) (fun e_ => (hk_.2) e_)))) (fun k_ hk_ => hk_.1.1.1))) (zA_ (zb (zp (ok' := fun k_ => some k_ ≠ (.slice Ao26 t284.length co26 : Value).ownBlock) (zag ((zad (zad HO_278001.out (zac HO_292000.out) zG76) (zac HO_292002.out) zG76)) hkp (fun k_ hk_ hs_ => Or.elim hs_ (fun e_ => (hk_.1.2) e_) (fun e_ => Or.elim e_ (fun e_ => (hk_.1.1) e_) (fun e_ => (hk_.2) e_)))) (fun k_ hk_ => hk_.1.1.1))) (zA_ (zb (zp (ok' := fun k_ => some k_ ≠ (.slice Ao27 t287.length co27 : Value).ownBlock) (zag ((zad (zad HO_278002.out (zac HO_292000.out) zG76) (zac HO_292001.out) zG76)) hkp (fun k_ hk_ hs_ => Or.elim hs_ (fun e_ => (hk_.1.2) e_) (fun e_ => Or.elim e_ (fun e_ => (hk_.2) e_) (fun e_ => (hk_.1.1) e_)))) (fun k_ hk_ => hk_.1.1.1))) (zA_ (zb (zao rfl hy0 (fun k_ e_ => HO_292000.out.1 k_ e_))) (zA_ (zb (zao rfl hy1 (fun k_ e_ => HO_292001.out.1 k_ e_))) (zA_ (zb (zao rfl hy2 (fun k_ e_ => HO_292002.out.1 k_ e_))) (zA_ (zb (zat zG62 hkp (fun hs_ => Or.elim hs_ (fun e_ => (fun e_ => (zae HO_292000.out BK277.out zG76) e_) e_) (fun e_ => Or.elim e_ (fun e_ => (fun e_ => (zae HO_292001.out BK277.out zG76) e_) e_) (fun e_ => (fun e_ => (zae HO_292002.out BK277.out zG76) e_) e_))))) (zA_ (zb (zat zG63 hkp (fun hs_ => Or.elim hs_ (fun e_ => (fun e_ => (zae HO_292000.out BK291.out zG76) e_) e_) (fun e_ => Or.elim e_ (fun e_ => (fun e_ => (zae HO_292001.out BK291.out zG76) e_) e_) (fun e_ => (fun e_ => (zae HO_292002.out BK291.out zG76) e_) e_))))) (zb (hb))))))))); clear HO_278000 HO_278001 HO_278002 HO_292000 HO_292001 HO_292002 BK277 BK291 HB; obtain ⟨HO_278000, HO_278001, HO_278002, HO_292000, HO_292001, HO_292002, BK277, BK291, HB⟩ := n_; (try clear hb); (try clear hkp); (try clear hy0); (try clear hy1); (try clear hy2); have hcz75_0 : w74.cell? ⟨gb291, 0, none⟩ = some (.slice Ao23 t281.length co23) := (q17a BK291.out 0).trans rfl; have hcz75_1 : w74.cell? ⟨gb291, 1, none⟩ = some (.slice Ao26 t284.length co26) := (q17a BK291.out 1).trans rfl; have hcz75_2 : w74.cell? ⟨gb291, 2, none⟩ = some (.slice Ao27 t287.length co27) := (q17a BK291.out 2).trans rfl; have hfz75_0 := zd BK291.out 0; have hfz75_1 := zd BK291.out 1; have hfz75_2 := zd BK291.out 2) | ((with_reducible refine gate_callee (f := 17) rfl ?_); refine goesL_ (some 67) rfl rfl Try.func17 zG75 rfl #[.agg #[.slice Ao23 t301.length co23, .slice Ao26 t302.length co26, .slice Ao27 t303.length co27], .int .i64 1] rfl zK119 ?_; (with_reducible refine (laws_heldLedger.calls kj42 _ _ t301 _ _ t302 _ _ t303 1 t304 _ ?side1 ?side2 ?side3 ?side4 ?side5 ?side6 A61.out).mono ?_); (case side1 => exact zH46); (case side2 => exact zH71); (case side3 => exact zH47); (case side4 => exact zH72); (case side5 => exact zH48); (case side6 => exact zH73); rintro e w76 ⟨rfl, hb⟩; refine ⟨_, rfl, ?_⟩; have n_ := zA_ (zb (zo zG68 hb)) (zA_ (zb (zo zG69 hb)) (zA_ (zb (zo zG70 hb)) (zA_ (zb (zo zG71 hb)) (zA_ (zb (zo zG72 hb)) (zA_ (zb (zo zG73 hb)) (zA_ (zb (zt (g := gb277) (o := .cells #[.slice Ao15 t267.length co15, .slice Ao17 t270.length co17, .slice Ao18 t273.length co18] 31 (0, 0)) zG62 hb)) (zA_ (zb (zt (g := gb291) (o := .cells #[.slice Ao23 t281.length co23, .slice Ao26 t284.length co26, .slice Ao27 t287.length co27] 31 (0, 0)) zG63 hb)) (zb (zr zG54 hb))))))))); clear HO_278000 HO_278001 HO_278002 HO_292000 HO_292001 HO_292002 BK277 BK291 HB; obtain ⟨HO_278000, HO_278001, HO_278002, HO_292000, HO_292001, HO_292002, BK277, BK291, HB⟩ := n_; (try clear hb)) | ((with_reducible refine gate_callee (f := 12) rfl ?_); refine goesL_ (some 75) rfl rfl Try.func12 zG75 rfl #[.slice A0 l0.length c0] rfl zG55 ?_; (with_reducible refine (laws_toEventS.calls kj42 _ _ l0 t305 _ ?side1 ?side2 A69.out).mono ?_); (case side1 => exact zH57); (case side2 => exact HC0.out); rintro e w77 ⟨v306, rfl, ho0, hb⟩; refine ⟨_, rfl, ?_⟩; have n_ := zA_ (zb (zo zG68 hb)) (zA_ (zb (zo zG69 hb)) (zA_ (zb (zo zG70 hb)) (zA_ (zb (zo zG71 hb)) (zA_ (zb (zo zG72 hb)) (zA_ (zb (zo zG73 hb)) (zA_ (zb (zah ho0 (zq zG54))) (zA_ (zb (zt (g := gb277) (o := .cells #[.slice Ao15 t267.length co15, .slice Ao17 t270.length co17, .slice Ao18 t273.length co18] 31 (0, 0)) zG62 hb)) (zA_ (zb (zt (g := gb291) (o := .cells #[.slice Ao23 t281.length co23, .slice Ao26 t284.length co26, .slice Ao27 t287.length co27] 31 (0, 0)) zG63 hb)) (zb (zr zG54 hb)))))))))); clear HO_278000 HO_278001 HO_278002 HO_292000 HO_292001 HO_292002 BK277 BK291 HB; obtain ⟨HO_278000, HO_278001, HO_278002, HO_292000, HO_292001, HO_292002, HO307, BK277, BK291, HB⟩ := n_; (try clear hb); (try clear ho0); obtain ⟨Ao78, co78, eo78⟩ := zy HO307.out; subst eo78) | ((with_reducible refine gate_callee (f := 7) rfl ?_); refine goesL_ (some 76) rfl rfl Try.func7 zG75 rfl #[.slice Ao78 t305.length co78] rfl zG55 ?_; (with_reducible refine (impl_LedgerOf.calls kj42 _ _ t305 t308 t311 t314 t317 _ ?side1 ?side2 A70.out).mono ?_); (case side1 => repeat (first | exact (Kd.R_reads' HO307.out).2.2 | (with_reducible refine zu ?_ _) | (with_reducible refine zv ?_ _) | (with_reducible refine zw ?_))); (case side2 => exact (Kd.R_reads' HO307.out).2.1); rintro e w79 ⟨v309, v312, v315, rfl, ho0, ho1, ho2, hb⟩; refine ⟨_, rfl, ?_⟩; have n_ := zA_ (zb (zak zG68 (zap ho0) hb)) (zA_ (zb (zak zG69 (zap ho1) hb)) (zA_ (zb (zak zG70 (zap ho2) hb)) (zA_ (zb (zak zG71 (zap ho0) hb)) (zA_ (zb (zak zG72 (zap ho1) hb)) (zA_ (zb (zak zG73 (zap ho2) hb)) (zA_ (zb (zo (by (with_reducible repeat (first | apply zj | apply zk | apply zl)); exact HO307.out) hb)) (zA_ (zb (zah (zaq (zaq ho0 (zau zG68)) (zau zG71)) (zq zG54))) (zA_ (zb (zah (zaq (zaq ho1 (zau zG69)) (zau zG72)) (zq zG54))) (zA_ (zb (zah (zaq (zaq ho2 (zau zG70)) (zau zG73)) (zq zG54))) (zA_ (zb (zt (g := gb277) (o := .cells #[.slice Ao15 t267.length co15, .slice Ao17 t270.length co17, .slice Ao18 t273.length co18] 31 (0, 0)) zG62 hb)) (zA_ (zb (zt (g := gb291) (o := .cells #[.slice Ao23 t281.length co23, .slice Ao26 t284.length co26, .slice Ao27 t287.length co27] 31 (0, 0)) zG63 hb)) (zb (zr zG54 hb))))))))))))); clear HO_278000 HO_278001 HO_278002 HO_292000 HO_292001 HO_292002 HO307 BK277 BK291 HB; obtain ⟨HO_278000, HO_278001, HO_278002, HO_292000, HO_292001, HO_292002, HO307, HO310, HO313, HO316, BK277, BK291, HB⟩ := n_; (try clear hb); (try clear ho0); (try clear ho1); (try clear ho2)) | ((with_reducible refine gate_dst (N := 12) rfl ?_); refine box_event ?hg (N := 12) ?hd (cs := #[.slice none 0 0, .slice none 0 0, .slice none 0 0]) (t := 31) ?hr ?_; (case hd => rfl); (case hg => rfl); (case hr => exact zH101); intro gb318 hg w80 hbox hb; have n_ := zA_ (zb (zo zG68 hb)) (zA_ (zb (zo zG69 hb)) (zA_ (zb (zo zG70 hb)) (zA_ (zb (zo zG71 hb)) (zA_ (zb (zo zG72 hb)) (zA_ (zb (zo zG73 hb)) (zA_ (zb (zo (by (with_reducible repeat (first | apply zj | apply zk | apply zl)); exact HO307.out) hb)) (zA_ (zb (zo (by (with_reducible repeat (first | apply zj | apply zk | apply zl)); exact HO310.out) hb)) (zA_ (zb (zo (by (with_reducible repeat (first | apply zj | apply zk | apply zl)); exact HO313.out) hb)) (zA_ (zb (zo (by (with_reducible repeat (first | apply zj | apply zk | apply zl)); exact HO316.out) hb)) (zA_ (zb (zt (g := gb277) (o := .cells #[.slice Ao15 t267.length co15, .slice Ao17 t270.length co17, .slice Ao18 t273.length co18] 31 (0, 0)) zG62 hb)) (zA_ (zb (zt (g := gb291) (o := .cells #[.slice Ao23 t281.length co23, .slice Ao26 t284.length co26, .slice Ao27 t287.length co27] 31 (0, 0)) zG63 hb)) (zA_ (zb (zr zG54 hb)) (zA_ (zb (hbox)) (zA_ (zN1 w.heap.size hg (zq zG54)) (zA_ (zN1 w.heap.size hg (zq zG54)) (zN3 hg (zaa (g := gb277) (o := .cells #[.slice Ao15 t267.length co15, .slice Ao17 t270.length co17, .slice Ao18 t273.length co18] 31 (0, 0)) zG62) (zN2 hg (zaa (g := gb291) (o := .cells #[.slice Ao23 t281.length co23, .slice Ao26 t284.length co26, .slice Ao27 t287.length co27] 31 (0, 0)) zG63)))))))))))))))))); clear HO_278000 HO_278001 HO_278002 HO_292000 HO_292001 HO_292002 HO307 HO310 HO313 HO316 BK277 BK291 HB; obtain ⟨HO_278000, HO_278001, HO_278002, HO_292000, HO_292001, HO_292002, HO307, HO310, HO313, HO316, BK277, BK291, HB, BK318, GW318, GE318, NB277_318, NB318_277, NB291_318, NB318_291⟩ := n_; clear hb hbox hg; obtain ⟨Ao81, co81, eo81⟩ := zy HO310.out; subst eo81; have hnb82 := NB318_277.out; have hnc82 := NB277_318.out; have hnb83 := NB318_291.out; have hnc83 := NB291_318.out; have hcz84_0 : w80.cell? ⟨gb318, 0, none⟩ = some (.slice none 0 0) := (q17a BK318.out 0).trans rfl; have hcz84_1 : w80.cell? ⟨gb318, 1, none⟩ = some (.slice none 0 0) := (q17a BK318.out 1).trans rfl; have hcz84_2 : w80.cell? ⟨gb318, 2, none⟩ = some (.slice none 0 0) := (q17a BK318.out 2).trans rfl; have hfz84_0 := zd BK318.out 0; have hfz84_1 := zd BK318.out 1; have hfz84_2 := zd BK318.out 2; obtain ⟨Ao85, co85, eo85⟩ := zy HO313.out; subst eo85; obtain ⟨Ao86, co86, eo86⟩ := zy HO316.out; subst eo86))
     (try simp only [Act.put, List.setIfInBounds_toArray, List.set_cons_zero, List.set_cons_succ])
     go_cut [87] (fun v87 wc => ∃ (kq : Nat) (x87_70 : Bool), v87 = .bool x87_70 ∧ Aside0 (laws_FnExactLedgerOf.j2 kq t300 x87_70 t301 t302 t303 = some r) ∧ Aside0 (kq ≤ kj42) ∧ Aside0 (Kd.R k39 39 wc w.heap.size (fun k_ => some k_ ≠ ((.slice Ao23 t281.length co23) : Value).ownBlock ∧ some k_ ≠ ((.slice Ao81 t308.length co81) : Value).ownBlock) (.slice Ao15 t267.length co15) t267) ∧ Aside0 (Kd.R Kd.string 9 wc w.heap.size (fun k_ => some k_ ≠ ((.slice Ao26 t284.length co26) : Value).ownBlock ∧ some k_ ≠ ((.slice Ao85 t311.length co85) : Value).ownBlock) (.slice Ao17 t270.length co17) t270) ∧ Aside0 (Kd.R (Kd.int .i64) 3 wc w.heap.size (fun k_ => some k_ ≠ ((.slice Ao27 t287.length co27) : Value).ownBlock ∧ some k_ ≠ ((.slice Ao86 t314.length co86) : Value).ownBlock) (.slice Ao18 t273.length co18) t273) ∧ Aside0 (Kd.R k39 39 wc w.heap.size (fun k_ => some k_ ≠ ((.slice Ao15 t267.length co15) : Value).ownBlock ∧ some k_ ≠ ((.slice Ao81 t308.length co81) : Value).ownBlock) (.slice Ao23 t281.length co23) t301) ∧ Aside0 (Kd.R Kd.string 9 wc w.heap.size (fun k_ => some k_ ≠ ((.slice Ao17 t270.length co17) : Value).ownBlock ∧ some k_ ≠ ((.slice Ao85 t311.length co85) : Value).ownBlock) (.slice Ao26 t284.length co26) t302) ∧ Aside0 (Kd.R (Kd.int .i64) 3 wc w.heap.size (fun k_ => some k_ ≠ ((.slice Ao18 t273.length co18) : Value).ownBlock ∧ some k_ ≠ ((.slice Ao86 t314.length co86) : Value).ownBlock) (.slice Ao27 t287.length co27) t303) ∧ Aside0 (Kd.R k39 39 wc w.heap.size (fun k_ => some k_ ≠ ((.slice Ao15 t267.length co15) : Value).ownBlock ∧ some k_ ≠ ((.slice Ao23 t281.length co23) : Value).ownBlock) (.slice Ao81 t308.length co81) t308) ∧ Aside0 (Kd.R Kd.string 9 wc w.heap.size (fun k_ => some k_ ≠ ((.slice Ao17 t270.length co17) : Value).ownBlock ∧ some k_ ≠ ((.slice Ao26 t284.length co26) : Value).ownBlock) (.slice Ao85 t311.length co85) t311) ∧ Aside0 (Kd.R (Kd.int .i64) 3 wc w.heap.size (fun k_ => some k_ ≠ ((.slice Ao18 t273.length co18) : Value).ownBlock ∧ some k_ ≠ ((.slice Ao27 t287.length co27) : Value).ownBlock) (.slice Ao86 t314.length co86) t314) ∧ Aside0 (wc.heap[gb277]? = some (.cells #[(.slice Ao15 t267.length co15), (.slice Ao17 t270.length co17), (.slice Ao18 t273.length co18)] 31 (0, 0))) ∧ Aside0 (wc.heap[gb291]? = some (.cells #[(.slice Ao23 t281.length co23), (.slice Ao26 t284.length co26), (.slice Ao27 t287.length co27)] 31 (0, 0))) ∧ Aside0 (wc.heap[gb318]? = some (.cells #[(.slice Ao81 t308.length co81), (.slice Ao85 t311.length co85), (.slice Ao86 t314.length co86)] 31 (0, 0))) ∧ Aside0 (Below w.heap.size w wc))
     case first =>
      have H := HC71.out
      clear HC71
      replace H := Option.bind_eq_some_iff.mp H
      obtain ⟨t319, A870, H⟩ := H
      replace H : (if t319 = true then (laws_FnExactLedgerOf.j2 kj42 t300 (t317 != t276) t301 t302 t303) else (laws_FnExactLedgerOf.j2 kj42 t300 true t301 t302 t303)) = some r := H
      have A87 := zb A870
      clear A870
      by_cases c88 : t319 = true
      ·subst c88
       have H1 : (laws_FnExactLedgerOf.j2 kj42 t300 (t317 != t276) t301 t302 t303) = some r := by rw [if_pos rfl] at H; exact H
       clear H
       have H := H1
       clear H1
       have H' := zb H
       clear H
       have hnb89 := NB318_277.out
       have hnc89 := NB277_318.out
       have hnb90 := NB318_291.out
       have hnc90 := NB291_318.out
       have hcz91_0 : w80.cell? ⟨gb318, 0, none⟩ = some (.slice none 0 0) := (q17a BK318.out 0).trans rfl
       have hcz91_1 : w80.cell? ⟨gb318, 1, none⟩ = some (.slice none 0 0) := (q17a BK318.out 1).trans rfl
       have hcz91_2 : w80.cell? ⟨gb318, 2, none⟩ = some (.slice none 0 0) := (q17a BK318.out 2).trans rfl
       have hfz91_0 := zd BK318.out 0
       have hfz91_1 := zd BK318.out 1
       have hfz91_2 := zd BK318.out 2
       have hnb92 := NB277_291.out
       have hnc92 := NB291_277.out
       have hcz93_0 : w80.cell? ⟨gb277, 0, none⟩ = some (.slice Ao15 t267.length co15) := (q17a BK277.out 0).trans rfl
       have hcz93_1 : w80.cell? ⟨gb277, 1, none⟩ = some (.slice Ao17 t270.length co17) := (q17a BK277.out 1).trans rfl
       have hcz93_2 : w80.cell? ⟨gb277, 2, none⟩ = some (.slice Ao18 t273.length co18) := (q17a BK277.out 2).trans rfl
       have hfz93_0 := zd BK277.out 0
       have hfz93_1 := zd BK277.out 1
       have hfz93_2 := zd BK277.out 2
       go_wp2_with (first | ((with_reducible refine gate_callee (f := 13) rfl ?_); refine goesL_ (some 81) rfl rfl Try.func13 zG75 rfl #[.agg #[.slice Ao81 t308.length co81, .slice Ao85 t311.length co85, .slice Ao86 t314.length co86], .agg #[.slice Ao15 t267.length co15, .slice Ao17 t270.length co17, .slice Ao18 t273.length co18]] rfl zG55 ?_; (with_reducible refine (laws_eqLedger.calls kj42 _ _ t308 _ _ t311 _ _ t314 _ _ t267 _ _ t270 _ _ t273 true _ ?side1 ?side2 ?side3 ?side4 ?side5 ?side6 ?side7 ?side8 ?side9 ?side10 ?side11 ?side12 A87.out).mono ?_); (case side1 => exact zH0); (case side2 => exact (Kd.R_reads' HO310.out).2.1); (case side3 => exact zH2); (case side4 => exact (Kd.R_reads' HO313.out).2.1); (case side5 => exact zH1); (case side6 => exact (Kd.R_reads' HO316.out).2.1); (case side7 => exact zH3); (case side8 => exact (Kd.R_reads' HO_278000.out).2.1); (case side9 => exact zH6); (case side10 => exact (Kd.R_reads' HO_278001.out).2.1); (case side11 => exact zH5); (case side12 => exact (Kd.R_reads' HO_278002.out).2.1); rintro e w94 ⟨rfl, hb⟩; refine ⟨_, rfl, ?_⟩; have n_ := zA_ (zb (zo zK120 hb)) (zA_ (zb (zo zK121 hb)) (zA_ (zb (zo zK122 hb)) (zA_ (zb (zo zK123 hb)) (zA_ (zb (zo zK124 hb)) (zA_ (zb (zo zK125 hb)) (zA_ (zb (zo zK135 hb)) (zA_ (zb (zo zK136 hb)) (zA_ (zb (zo zK137 hb)) (zA_ (zb (zo zK138 hb)) (zA_ (zb (zt (g := gb277) (o := .cells #[.slice Ao15 t267.length co15, .slice Ao17 t270.length co17, .slice Ao18 t273.length co18] 31 (0, 0)) zK117 hb)) (zA_ (zb (zt (g := gb291) (o := .cells #[.slice Ao23 t281.length co23, .slice Ao26 t284.length co26, .slice Ao27 t287.length co27] 31 (0, 0)) zK118 hb)) (zA_ (zb (zt (g := gb318) (o := .cells #[.slice Ao81 t308.length co81, .slice Ao85 t311.length co85, .slice Ao86 t314.length co86] 31 (0, 0)) zK111 hb)) (zb (zr zK139 hb)))))))))))))); clear HO_278000 HO_278001 HO_278002 HO_292000 HO_292001 HO_292002 HO307 HO310 HO313 HO316 BK277 BK291 BK318 HB; obtain ⟨HO_278000, HO_278001, HO_278002, HO_292000, HO_292001, HO_292002, HO307, HO310, HO313, HO316, BK277, BK291, BK318, HB⟩ := n_; (try clear hb); (try clear hk)))
       go_meet
       case rel => exact ⟨_, ((t317 != t276)), zG74, H', ⟨by have := HJ8.out; have := HJ42.out; first | omega | exact Nat.le_refl _⟩, ⟨zH88⟩, ⟨zH89⟩, ⟨zH90⟩, ⟨zH91⟩, ⟨zH92⟩, ⟨zH93⟩, ⟨zH68⟩, ⟨zH69⟩, ⟨zH70⟩, ⟨zH85⟩, ⟨zH86⟩, ⟨by (with_reducible repeat (first | refine zh ?_ _ | refine zm ?_ | refine zi ?_ _)); exact BK318.out⟩, ⟨zH38⟩⟩
      replace c88 := Bool.eq_false_iff.mpr c88
      subst c88
      have H1 : (laws_FnExactLedgerOf.j2 kj42 t300 true t301 t302 t303) = some r := by rw [if_neg (show ¬ (false = true) by decide)] at H; exact H
      clear H
      have H := H1
      clear H1
      have H' := zb H
      clear H
      have hnb95 := NB318_277.out
      have hnc95 := NB277_318.out
      have hnb96 := NB318_291.out
      have hnc96 := NB291_318.out
      have hcz97_0 : w80.cell? ⟨gb318, 0, none⟩ = some (.slice none 0 0) := (q17a BK318.out 0).trans rfl
      have hcz97_1 : w80.cell? ⟨gb318, 1, none⟩ = some (.slice none 0 0) := (q17a BK318.out 1).trans rfl
      have hcz97_2 : w80.cell? ⟨gb318, 2, none⟩ = some (.slice none 0 0) := (q17a BK318.out 2).trans rfl
      have hfz97_0 := zd BK318.out 0
      have hfz97_1 := zd BK318.out 1
      have hfz97_2 := zd BK318.out 2
      have hnb98 := NB277_291.out
      have hnc98 := NB291_277.out
      have hcz99_0 : w80.cell? ⟨gb277, 0, none⟩ = some (.slice Ao15 t267.length co15) := (q17a BK277.out 0).trans rfl
      have hcz99_1 : w80.cell? ⟨gb277, 1, none⟩ = some (.slice Ao17 t270.length co17) := (q17a BK277.out 1).trans rfl
      have hcz99_2 : w80.cell? ⟨gb277, 2, none⟩ = some (.slice Ao18 t273.length co18) := (q17a BK277.out 2).trans rfl
      have hfz99_0 := zd BK277.out 0
      have hfz99_1 := zd BK277.out 1
      have hfz99_2 := zd BK277.out 2
      go_wp2_with (first | ((with_reducible refine gate_callee (f := 13) rfl ?_); refine goesL_ (some 81) rfl rfl Try.func13 zG75 rfl #[.agg #[.slice Ao81 t308.length co81, .slice Ao85 t311.length co85, .slice Ao86 t314.length co86], .agg #[.slice Ao15 t267.length co15, .slice Ao17 t270.length co17, .slice Ao18 t273.length co18]] rfl zG55 ?_; (with_reducible refine (laws_eqLedger.calls kj42 _ _ t308 _ _ t311 _ _ t314 _ _ t267 _ _ t270 _ _ t273 false _ ?side1 ?side2 ?side3 ?side4 ?side5 ?side6 ?side7 ?side8 ?side9 ?side10 ?side11 ?side12 A87.out).mono ?_); (case side1 => exact zH0); (case side2 => exact (Kd.R_reads' HO310.out).2.1); (case side3 => exact zH2); (case side4 => exact (Kd.R_reads' HO313.out).2.1); (case side5 => exact zH1); (case side6 => exact (Kd.R_reads' HO316.out).2.1); (case side7 => exact zH3); (case side8 => exact (Kd.R_reads' HO_278000.out).2.1); (case side9 => exact zH6); (case side10 => exact (Kd.R_reads' HO_278001.out).2.1); (case side11 => exact zH5); (case side12 => exact (Kd.R_reads' HO_278002.out).2.1); rintro e w100 ⟨rfl, hb⟩; refine ⟨_, rfl, ?_⟩; have n_ := zA_ (zb (zo zK120 hb)) (zA_ (zb (zo zK121 hb)) (zA_ (zb (zo zK122 hb)) (zA_ (zb (zo zK123 hb)) (zA_ (zb (zo zK124 hb)) (zA_ (zb (zo zK125 hb)) (zA_ (zb (zo zK135 hb)) (zA_ (zb (zo zK136 hb)) (zA_ (zb (zo zK137 hb)) (zA_ (zb (zo zK138 hb)) (zA_ (zb (zt (g := gb277) (o := .cells #[.slice Ao15 t267.length co15, .slice Ao17 t270.length co17, .slice Ao18 t273.length co18] 31 (0, 0)) zK117 hb)) (zA_ (zb (zt (g := gb291) (o := .cells #[.slice Ao23 t281.length co23, .slice Ao26 t284.length co26, .slice Ao27 t287.length co27] 31 (0, 0)) zK118 hb)) (zA_ (zb (zt (g := gb318) (o := .cells #[.slice Ao81 t308.length co81, .slice Ao85 t311.length co85, .slice Ao86 t314.length co86] 31 (0, 0)) zK111 hb)) (zb (zr zK139 hb)))))))))))))); clear HO_278000 HO_278001 HO_278002 HO_292000 HO_292001 HO_292002 HO307 HO310 HO313 HO316 BK277 BK291 BK318 HB; obtain ⟨HO_278000, HO_278001, HO_278002, HO_292000, HO_292001, HO_292002, HO307, HO310, HO313, HO316, BK277, BK291, BK318, HB⟩ := n_; (try clear hb); (try clear hk)))
      go_meet
      case rel => exact ⟨_, (true), zG74, H', ⟨by have := HJ8.out; have := HJ42.out; first | omega | exact Nat.le_refl _⟩, ⟨zH88⟩, ⟨zH89⟩, ⟨zH90⟩, ⟨zH91⟩, ⟨zH92⟩, ⟨zH93⟩, ⟨zH68⟩, ⟨zH69⟩, ⟨zH70⟩, ⟨zH85⟩, ⟨zH86⟩, ⟨by (with_reducible repeat (first | refine zh ?_ _ | refine zm ?_ | refine zi ?_ _)); exact BK318.out⟩, ⟨zH38⟩⟩
     case rest =>
      clear HC71
      try clear c3
      try clear c3b0
      try clear c29
      try clear c38
      try clear c41
      try clear c48
      try clear c48b0
      try clear c50
      try clear c59
      try clear c62
      try clear c62b0
      try clear c68
      try clear c68b0
      try clear c68b1
      try clear c88
      try clear hcz16_0
      try clear hcz16_1
      try clear hcz16_2
      try clear hcz25_0
      try clear hcz25_1
      try clear hcz25_2
      try clear hcz31_0
      try clear hcz31_1
      try clear hcz31_2
      try clear hcz32_0
      try clear hcz32_1
      try clear hcz32_2
      try clear hcz35_0
      try clear hcz35_1
      try clear hcz35_2
      try clear hcz36_0
      try clear hcz36_1
      try clear hcz36_2
      try clear hcz52_0
      try clear hcz52_1
      try clear hcz52_2
      try clear hcz53_0
      try clear hcz53_1
      try clear hcz53_2
      try clear hcz56_0
      try clear hcz56_1
      try clear hcz56_2
      try clear hcz57_0
      try clear hcz57_1
      try clear hcz57_2
      try clear hcz64_0
      try clear hcz64_1
      try clear hcz64_2
      try clear hcz66_0
      try clear hcz66_1
      try clear hcz66_2
      try clear hcz73_0
      try clear hcz73_1
      try clear hcz73_2
      try clear hcz75_0
      try clear hcz75_1
      try clear hcz75_2
      try clear hcz84_0
      try clear hcz84_1
      try clear hcz84_2
      try clear hcz91_0
      try clear hcz91_1
      try clear hcz91_2
      try clear hcz93_0
      try clear hcz93_1
      try clear hcz93_2
      try clear hcz97_0
      try clear hcz97_1
      try clear hcz97_2
      try clear hcz99_0
      try clear hcz99_1
      try clear hcz99_2
      try clear hfz16_0
      try clear hfz16_1
      try clear hfz16_2
      try clear hfz25_0
      try clear hfz25_1
      try clear hfz25_2
      try clear hfz31_0
      try clear hfz31_1
      try clear hfz31_2
      try clear hfz32_0
      try clear hfz32_1
      try clear hfz32_2
      try clear hfz35_0
      try clear hfz35_1
      try clear hfz35_2
      try clear hfz36_0
      try clear hfz36_1
      try clear hfz36_2
      try clear hfz52_0
      try clear hfz52_1
      try clear hfz52_2
      try clear hfz53_0
      try clear hfz53_1
      try clear hfz53_2
      try clear hfz56_0
      try clear hfz56_1
      try clear hfz56_2
      try clear hfz57_0
      try clear hfz57_1
      try clear hfz57_2
      try clear hfz64_0
      try clear hfz64_1
      try clear hfz64_2
      try clear hfz66_0
      try clear hfz66_1
      try clear hfz66_2
      try clear hfz73_0
      try clear hfz73_1
      try clear hfz73_2
      try clear hfz75_0
      try clear hfz75_1
      try clear hfz75_2
      try clear hfz84_0
      try clear hfz84_1
      try clear hfz84_2
      try clear hfz91_0
      try clear hfz91_1
      try clear hfz91_2
      try clear hfz93_0
      try clear hfz93_1
      try clear hfz93_2
      try clear hfz97_0
      try clear hfz97_1
      try clear hfz97_2
      try clear hfz99_0
      try clear hfz99_1
      try clear hfz99_2
      obtain ⟨kq, x87_70, rfl, HA, HJ70, HO_278000, HO_278001, HO_278002, HO_292000, HO_292001, HO_292002, HO_319000, HO_319001, HO_319002, BK277, BK291, BK318, HB⟩ := hcut
      have hl292000_70 := (Kd.R_reads' HO_292000.out).1
      rw [hl292000_70] at HO_292000
      (try simp only [hl292000_70])
      (try simp only [hl292000_70] at BK277)
      (try simp only [hl292000_70] at BK291)
      (try simp only [hl292000_70] at BK318)
      (try simp only [hl292000_70] at HO_278000)
      (try simp only [hl292000_70] at HO_278001)
      (try simp only [hl292000_70] at HO_278002)
      (try simp only [hl292000_70] at HO_292001)
      (try simp only [hl292000_70] at HO_292002)
      (try simp only [hl292000_70] at HO_319000)
      (try simp only [hl292000_70] at HO_319001)
      (try simp only [hl292000_70] at HO_319002)
      have hl292001_70 := (Kd.R_reads' HO_292001.out).1
      rw [hl292001_70] at HO_292001
      (try simp only [hl292001_70])
      (try simp only [hl292001_70] at BK277)
      (try simp only [hl292001_70] at BK291)
      (try simp only [hl292001_70] at BK318)
      (try simp only [hl292001_70] at HO_278000)
      (try simp only [hl292001_70] at HO_278001)
      (try simp only [hl292001_70] at HO_278002)
      (try simp only [hl292001_70] at HO_292000)
      (try simp only [hl292001_70] at HO_292002)
      (try simp only [hl292001_70] at HO_319000)
      (try simp only [hl292001_70] at HO_319001)
      (try simp only [hl292001_70] at HO_319002)
      have hl292002_70 := (Kd.R_reads' HO_292002.out).1
      rw [hl292002_70] at HO_292002
      (try simp only [hl292002_70])
      (try simp only [hl292002_70] at BK277)
      (try simp only [hl292002_70] at BK291)
      (try simp only [hl292002_70] at BK318)
      (try simp only [hl292002_70] at HO_278000)
      (try simp only [hl292002_70] at HO_278001)
      (try simp only [hl292002_70] at HO_278002)
      (try simp only [hl292002_70] at HO_292000)
      (try simp only [hl292002_70] at HO_292001)
      (try simp only [hl292002_70] at HO_319000)
      (try simp only [hl292002_70] at HO_319001)
      (try simp only [hl292002_70] at HO_319002)
      cases kq with
      | zero => exact absurd HA.out (by simp [laws_FnExactLedgerOf.j2])
      | succ kj70 =>
       have H := HA.out
       clear HA
       simp only [laws_FnExactLedgerOf.j2] at H
       by_cases c101 : x87_70 = true
       ·subst c101
        have H1 : (some false) = some r := by rw [if_pos rfl] at H; exact H
        clear H
        have H := H1
        clear H1
        obtain rfl := Option.some.inj H
        go_wp2
        go_ret
        exact zH16
       replace c101 := Bool.eq_false_iff.mpr c101
       subst c101
       have H1 : ((laws_heldLedger.f kj70 t301 t302 t303 1).bind fun t320 => (if t320 < 0 then (some false) else (if t320 = t300 then (some true) else (some false)))) = some r := by rw [if_neg (show ¬ (false = true) by decide)] at H; exact H
       clear H
       have H := H1
       clear H1
       replace H := Option.bind_eq_some_iff.mp H
       obtain ⟨t320, A1020, H⟩ := H
       replace H : (if t320 < 0 then (some false) else (if t320 = t300 then (some true) else (some false))) = some r := H
       have A102 := zb A1020
       clear A1020
       by_cases c103 : t320 < 0
       ·rw [if_pos c103] at H
        have c103b0 := decide_eq_true c103
        clear c103
        obtain rfl := Option.some.inj H
        have hnb104 := NB291_277.out
        have hnc104 := NB277_291.out
        have hnb105 := NB291_318.out
        have hnc105 := NB318_291.out
        have hcz106_0 : wc.cell? ⟨gb291, 0, none⟩ = some (.slice Ao23 t301.length co23) := (q17a BK291.out 0).trans rfl
        have hcz106_1 : wc.cell? ⟨gb291, 1, none⟩ = some (.slice Ao26 t302.length co26) := (q17a BK291.out 1).trans rfl
        have hcz106_2 : wc.cell? ⟨gb291, 2, none⟩ = some (.slice Ao27 t303.length co27) := (q17a BK291.out 2).trans rfl
        have hfz106_0 := zd BK291.out 0
        have hfz106_1 := zd BK291.out 1
        have hfz106_2 := zd BK291.out 2
        go_wp2_with (first | ((with_reducible refine gate_callee (f := 17) rfl ?_); refine goesL_ (some 90) rfl rfl Try.func17 zG75 rfl #[.agg #[.slice Ao23 t301.length co23, .slice Ao26 t302.length co26, .slice Ao27 t303.length co27], .int .i64 1] rfl zG55 ?_; (with_reducible refine (laws_heldLedger.calls kj70 _ _ t301 _ _ t302 _ _ t303 1 t320 _ ?side1 ?side2 ?side3 ?side4 ?side5 ?side6 A102.out).mono ?_); (case side1 => exact zH46); (case side2 => exact zH103); (case side3 => exact zH47); (case side4 => exact zH104); (case side5 => exact zH48); (case side6 => exact zH105); rintro e w107 ⟨rfl, hb⟩; refine ⟨_, rfl, ?_⟩; have n_ := zA_ (zb (zo zG68 hb)) (zA_ (zb (zo zG69 hb)) (zA_ (zb (zo zG70 hb)) (zA_ (zb (zo zG71 hb)) (zA_ (zb (zo zG72 hb)) (zA_ (zb (zo zG73 hb)) (zA_ (zb (zo zK162 hb)) (zA_ (zb (zo zK163 hb)) (zA_ (zb (zo zK164 hb)) (zA_ (zb (zt (g := gb277) (o := .cells #[.slice Ao15 t267.length co15, .slice Ao17 t270.length co17, .slice Ao18 t273.length co18] 31 (0, 0)) zG62 hb)) (zA_ (zb (zt (g := gb291) (o := .cells #[.slice Ao23 t301.length co23, .slice Ao26 t302.length co26, .slice Ao27 t303.length co27] 31 (0, 0)) zG63 hb)) (zA_ (zb (zt (g := gb318) (o := .cells #[.slice Ao81 t308.length co81, .slice Ao85 t311.length co85, .slice Ao86 t314.length co86] 31 (0, 0)) zK152 hb)) (zb (zr zK139 hb))))))))))))); clear HO_278000 HO_278001 HO_278002 HO_292000 HO_292001 HO_292002 HO_319000 HO_319001 HO_319002 BK277 BK291 BK318 HB; obtain ⟨HO_278000, HO_278001, HO_278002, HO_292000, HO_292001, HO_292002, HO_319000, HO_319001, HO_319002, BK277, BK291, BK318, HB⟩ := n_; (try clear hb)))
        go_ret
        exact zH16
       rw [if_neg c103] at H
       have c103b0 := decide_eq_false c103
       clear c103
       by_cases c108 : t320 = t300
       rotate_left
       ·rw [if_neg c108] at H
        have c108b0 : (t320 == t300) = false := beq_eq_false_iff_ne.mpr c108
        have c108b1 : (t320 != t300) = true := bne_iff_ne.mpr c108
        obtain rfl := Option.some.inj H
        have hnb113 := NB291_277.out
        have hnc113 := NB277_291.out
        have hnb114 := NB291_318.out
        have hnc114 := NB318_291.out
        have hcz115_0 : wc.cell? ⟨gb291, 0, none⟩ = some (.slice Ao23 t301.length co23) := (q17a BK291.out 0).trans rfl
        have hcz115_1 : wc.cell? ⟨gb291, 1, none⟩ = some (.slice Ao26 t302.length co26) := (q17a BK291.out 1).trans rfl
        have hcz115_2 : wc.cell? ⟨gb291, 2, none⟩ = some (.slice Ao27 t303.length co27) := (q17a BK291.out 2).trans rfl
        have hfz115_0 := zd BK291.out 0
        have hfz115_1 := zd BK291.out 1
        have hfz115_2 := zd BK291.out 2
        go_wp2_with (first | ((with_reducible refine gate_callee (f := 17) rfl ?_); refine goesL_ (some 90) rfl rfl Try.func17 zG75 rfl #[.agg #[.slice Ao23 t301.length co23, .slice Ao26 t302.length co26, .slice Ao27 t303.length co27], .int .i64 1] rfl zG55 ?_; (with_reducible refine (laws_heldLedger.calls kj70 _ _ t301 _ _ t302 _ _ t303 1 t320 _ ?side1 ?side2 ?side3 ?side4 ?side5 ?side6 A102.out).mono ?_); (case side1 => exact zH46); (case side2 => exact zH103); (case side3 => exact zH47); (case side4 => exact zH104); (case side5 => exact zH48); (case side6 => exact zH105); rintro e w116 ⟨rfl, hb⟩; refine ⟨_, rfl, ?_⟩; have n_ := zA_ (zb (zo zG68 hb)) (zA_ (zb (zo zG69 hb)) (zA_ (zb (zo zG70 hb)) (zA_ (zb (zo zG71 hb)) (zA_ (zb (zo zG72 hb)) (zA_ (zb (zo zG73 hb)) (zA_ (zb (zo zK162 hb)) (zA_ (zb (zo zK163 hb)) (zA_ (zb (zo zK164 hb)) (zA_ (zb (zt (g := gb277) (o := .cells #[.slice Ao15 t267.length co15, .slice Ao17 t270.length co17, .slice Ao18 t273.length co18] 31 (0, 0)) zG62 hb)) (zA_ (zb (zt (g := gb291) (o := .cells #[.slice Ao23 t301.length co23, .slice Ao26 t302.length co26, .slice Ao27 t303.length co27] 31 (0, 0)) zG63 hb)) (zA_ (zb (zt (g := gb318) (o := .cells #[.slice Ao81 t308.length co81, .slice Ao85 t311.length co85, .slice Ao86 t314.length co86] 31 (0, 0)) zK152 hb)) (zb (zr zK139 hb))))))))))))); clear HO_278000 HO_278001 HO_278002 HO_292000 HO_292001 HO_292002 HO_319000 HO_319001 HO_319002 BK277 BK291 BK318 HB; obtain ⟨HO_278000, HO_278001, HO_278002, HO_292000, HO_292001, HO_292002, HO_319000, HO_319001, HO_319002, BK277, BK291, BK318, HB⟩ := n_; (try clear hb)))
        go_ret
        exact zH16
       rw [if_pos c108] at H
       have c108b0 : (t320 == t300) = true := beq_iff_eq.mpr c108
       have c108b1 : (t320 != t300) = false := bne_eq_false_iff_eq.mpr c108
       clear c108
       obtain rfl := Option.some.inj H
       have hnb109 := NB291_277.out
       have hnc109 := NB277_291.out
       have hnb110 := NB291_318.out
       have hnc110 := NB318_291.out
       have hcz111_0 : wc.cell? ⟨gb291, 0, none⟩ = some (.slice Ao23 t301.length co23) := (q17a BK291.out 0).trans rfl
       have hcz111_1 : wc.cell? ⟨gb291, 1, none⟩ = some (.slice Ao26 t302.length co26) := (q17a BK291.out 1).trans rfl
       have hcz111_2 : wc.cell? ⟨gb291, 2, none⟩ = some (.slice Ao27 t303.length co27) := (q17a BK291.out 2).trans rfl
       have hfz111_0 := zd BK291.out 0
       have hfz111_1 := zd BK291.out 1
       have hfz111_2 := zd BK291.out 2
       go_wp2_with (first | ((with_reducible refine gate_callee (f := 17) rfl ?_); refine goesL_ (some 90) rfl rfl Try.func17 zG75 rfl #[.agg #[.slice Ao23 t301.length co23, .slice Ao26 t302.length co26, .slice Ao27 t303.length co27], .int .i64 1] rfl zG55 ?_; (with_reducible refine (laws_heldLedger.calls kj70 _ _ t301 _ _ t302 _ _ t303 1 t320 _ ?side1 ?side2 ?side3 ?side4 ?side5 ?side6 A102.out).mono ?_); (case side1 => exact zH46); (case side2 => exact zH103); (case side3 => exact zH47); (case side4 => exact zH104); (case side5 => exact zH48); (case side6 => exact zH105); rintro e w112 ⟨rfl, hb⟩; refine ⟨_, rfl, ?_⟩; have n_ := zA_ (zb (zo zG68 hb)) (zA_ (zb (zo zG69 hb)) (zA_ (zb (zo zG70 hb)) (zA_ (zb (zo zG71 hb)) (zA_ (zb (zo zG72 hb)) (zA_ (zb (zo zG73 hb)) (zA_ (zb (zo zK162 hb)) (zA_ (zb (zo zK163 hb)) (zA_ (zb (zo zK164 hb)) (zA_ (zb (zt (g := gb277) (o := .cells #[.slice Ao15 t267.length co15, .slice Ao17 t270.length co17, .slice Ao18 t273.length co18] 31 (0, 0)) zG62 hb)) (zA_ (zb (zt (g := gb291) (o := .cells #[.slice Ao23 t301.length co23, .slice Ao26 t302.length co26, .slice Ao27 t303.length co27] 31 (0, 0)) zG63 hb)) (zA_ (zb (zt (g := gb318) (o := .cells #[.slice Ao81 t308.length co81, .slice Ao85 t311.length co85, .slice Ao86 t314.length co86] 31 (0, 0)) zK152 hb)) (zb (zr zK139 hb))))))))))))); clear HO_278000 HO_278001 HO_278002 HO_292000 HO_292001 HO_292002 HO_319000 HO_319001 HO_319002 BK277 BK291 BK318 HB; obtain ⟨HO_278000, HO_278001, HO_278002, HO_292000, HO_292001, HO_292002, HO_319000, HO_319001, HO_319002, BK277, BK291, BK318, HB⟩ := n_; (try clear hb)))
       go_ret
       exact zH16
end Go.Proofs.Ytoibmbkmpadmnaa.G
