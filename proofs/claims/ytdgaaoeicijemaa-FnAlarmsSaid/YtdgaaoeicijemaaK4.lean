-- made by pp.py (wip/tools) out of the translation; Lean checks it
import Derived.Test.YtdgaaoeicijemaaK0
import Derived.Test.YtdgaaoeicijemaaK1
import Derived.Test.YtdgaaoeicijemaaK2
import Derived.Test.YtdgaaoeicijemaaK3
namespace Go.Proofs.Ytdgaaoeicijemaa.K
open Go.RowKit Go.Proofs.YtdgaaoeicijemaaW.PrintWords Go.Proofs.YtdgaaoeicijemaaW.PrintLast Go.Proofs.YtdgaaoeicijemaaW.PrintMore
attribute [local go_sem] max2_int min2_int max_two min_two max_three min_three max_four min_four   -- for this text's walks alone
set_option linter.unusedVariables false
set_option linter.unusedSimpArgs false

/-! ### laws_FnAlarms: function 4 -/
mutual
def laws_FnAlarms.j0 : Nat → List Nat → Nat → Nat → List (S42) → Bool → Option (Bool)
  | 0, _, _, _, _, _ => none
  | k + 1, x3, x4, x5, x7, x70 => if x70 = true then (some false) else (laws_FnAlarms.l0 k x3 x4 x5 x7 0)
def laws_FnAlarms.l0 : Nat → List Nat → Nat → Nat → List (S42) → Int → Option (Bool)
  | 0, _, _, _, _, _ => none
  | k + 1, x3, x4, x5, x7, x13 => if x13 < (x7.length : Int) then (if 0 ≤ x13 then (if ((rd_T42 x7 x13).f0) < 0 then (laws_FnAlarms.j2 k x3 x4 x5 x7 x13 true ((rd_T42 x7 x13).f0) ((rd_T42 x7 x13).f1)) else (if ((rd_T42 x7 x13).f0) ≥ ((rd_T42 x7 x13).f1) then (laws_FnAlarms.j2 k x3 x4 x5 x7 x13 true ((rd_T42 x7 x13).f0) ((rd_T42 x7 x13).f1)) else (if ((rd_T42 x7 x13).f1) > (x3.length : Int) then (laws_FnAlarms.j2 k x3 x4 x5 x7 x13 true ((rd_T42 x7 x13).f0) ((rd_T42 x7 x13).f1)) else (if 0 ≤ ((rd_T42 x7 x13).f0) then (if ((rd_T42 x7 x13).f0) < (x3.length : Int) then (if ((fGt .f64 (rdOf (0 : Nat) x3 ((rd_T42 x7 x13).f0)) x4) = true) then (if x13 > 0 then (if 0 ≤ (wrap64 (x13 - 1)) then (if (wrap64 (x13 - 1)) < (x7.length : Int) then (laws_FnAlarms.j2 k x3 x4 x5 x7 x13 (decide (((rd_T42 x7 x13).f0) ≤ ((rd_T42 x7 (wrap64 (x13 - 1))).f1))) ((rd_T42 x7 x13).f0) ((rd_T42 x7 x13).f1)) else (none)) else (none)) else (laws_FnAlarms.j2 k x3 x4 x5 x7 x13 false ((rd_T42 x7 x13).f0) ((rd_T42 x7 x13).f1))) else (laws_FnAlarms.j2 k x3 x4 x5 x7 x13 true ((rd_T42 x7 x13).f0) ((rd_T42 x7 x13).f1))) else (none)) else (none))))) else (none)) else (some true)
def laws_FnAlarms.j2 : Nat → List Nat → Nat → Nat → List (S42) → Int → Bool → Int → Int → Option (Bool)
  | 0, _, _, _, _, _, _, _, _ => none
  | k + 1, x3, x4, x5, x7, x13, x122, x182000, x182001 => if x122 = true then (some false) else (if x182001 < (x3.length : Int) then (if 0 ≤ x182001 then (laws_FnAlarms.j3 k x3 x4 x5 x7 x13 (!(fLe .f64 (rdOf (0 : Nat) x3 x182001) x5)) x182000 x182001) else (none)) else (laws_FnAlarms.j3 k x3 x4 x5 x7 x13 false x182000 x182001))
def laws_FnAlarms.j3 : Nat → List Nat → Nat → Nat → List (S42) → Int → Bool → Int → Int → Option (Bool)
  | 0, _, _, _, _, _, _, _, _ => none
  | k + 1, x3, x4, x5, x7, x13, x137, x182000, x182001 => if x137 = true then (some false) else (laws_FnAlarms.l1 k x3 x4 x5 x7 x13 x182000 x182000 x182001)
def laws_FnAlarms.l1 : Nat → List Nat → Nat → Nat → List (S42) → Int → Int → Int → Int → Option (Bool)
  | 0, _, _, _, _, _, _, _, _ => none
  | k + 1, x3, x4, x5, x7, x13, x15, x182000, x182001 => if x15 < x182001 then (if 0 ≤ x15 then (if x15 < (x3.length : Int) then (if (fLe .f64 (rdOf (0 : Nat) x3 x15) x5) = true then (some false) else (laws_FnAlarms.l1 k x3 x4 x5 x7 x13 (wrap64 (x15 + 1)) x182000 x182001)) else (none)) else (none)) else (laws_FnAlarms.l0 k x3 x4 x5 x7 (wrap64 (x13 + 1)))
end
def laws_FnAlarms.f (k : Nat) (l0 : List Int) : Option (Bool) := if (l0.length : Int) > 1048576 then (some true) else ((spec_TraceOf.f k l0).bind fun bt162 => ((impl_Alarms.f k bt162.1 bt162.2.1 bt162.2.2.1 bt162.2.2.2).bind fun bt168 => ((impl_Alarms.f k bt162.1 bt162.2.1 bt162.2.2.1 (wrap64 (bt162.2.2.2 + 1))).bind fun bt172 => ((spec_Alarms.f k bt162.1 bt162.2.1 bt162.2.2.1 bt162.2.2.2).bind fun bt176 => (if bt168.2 = 0 then (if bt172.2 = 0 then (if (bt172.1.length : Int) > (bt168.1.length : Int) then (laws_FnAlarms.j0 k bt162.1 bt162.2.1 bt162.2.2.1 bt168.1 true) else (laws_FnAlarms.j0 k bt162.1 bt162.2.1 bt162.2.2.1 bt168.1 ((bt168.1.length : Int) != (bt176.1.length : Int)))) else (laws_FnAlarms.j0 k bt162.1 bt162.2.1 bt162.2.2.1 bt168.1 true)) else (laws_FnAlarms.j0 k bt162.1 bt162.2.1 bt162.2.2.1 bt168.1 true))))))
theorem laws_FnAlarms.mono_l : ∀ k, (∀ y0 y1 y2 y3 y4, LeO (laws_FnAlarms.j0 k y0 y1 y2 y3 y4) (laws_FnAlarms.j0 (k + 1) y0 y1 y2 y3 y4)) ∧ (∀ y0 y1 y2 y3 y4, LeO (laws_FnAlarms.l0 k y0 y1 y2 y3 y4) (laws_FnAlarms.l0 (k + 1) y0 y1 y2 y3 y4)) ∧ (∀ y0 y1 y2 y3 y4 y5 y6 y7, LeO (laws_FnAlarms.j2 k y0 y1 y2 y3 y4 y5 y6 y7) (laws_FnAlarms.j2 (k + 1) y0 y1 y2 y3 y4 y5 y6 y7)) ∧ (∀ y0 y1 y2 y3 y4 y5 y6 y7, LeO (laws_FnAlarms.j3 k y0 y1 y2 y3 y4 y5 y6 y7) (laws_FnAlarms.j3 (k + 1) y0 y1 y2 y3 y4 y5 y6 y7)) ∧ (∀ y0 y1 y2 y3 y4 y5 y6 y7, LeO (laws_FnAlarms.l1 k y0 y1 y2 y3 y4 y5 y6 y7) (laws_FnAlarms.l1 (k + 1) y0 y1 y2 y3 y4 y5 y6 y7))
  | 0 => ⟨fun _ _ _ _ _ r h => by simp [laws_FnAlarms.j0] at h, fun _ _ _ _ _ r h => by simp [laws_FnAlarms.l0] at h, fun _ _ _ _ _ _ _ _ r h => by simp [laws_FnAlarms.j2] at h, fun _ _ _ _ _ _ _ _ r h => by simp [laws_FnAlarms.j3] at h, fun _ _ _ _ _ _ _ _ r h => by simp [laws_FnAlarms.l1] at h⟩
  | k + 1 => by
    obtain ⟨ih0, ih1, ih2, ih3, ih4⟩ := laws_FnAlarms.mono_l k
    refine ⟨?_, ?_, ?_, ?_, ?_⟩
    · intro y0 y1 y2 y3 y4
      unfold laws_FnAlarms.j0
      repeat' first
      | (with_reducible exact ih0 _ _ _ _ _)
      | (with_reducible exact ih1 _ _ _ _ _)
      | (with_reducible exact ih2 _ _ _ _ _ _ _ _)
      | (with_reducible exact ih3 _ _ _ _ _ _ _ _)
      | (with_reducible exact ih4 _ _ _ _ _ _ _ _)
      | (with_reducible exact impl_Alarms.mono _ _ _ _ _)
      | (with_reducible exact spec_Alarms.mono _ _ _ _ _)
      | (with_reducible exact spec_TraceOf.mono _ _)
      | (with_reducible exact LeO.refl _)
      | (with_reducible exact LeO.none _)
      | (with_reducible refine LeO.ite ?_ ?_)
      | (with_reducible refine LeO.bind ?_ (fun _ => ?_))
      | exact ih0 _ _ _ _ _
      | exact ih1 _ _ _ _ _
      | exact ih2 _ _ _ _ _ _ _ _
      | exact ih3 _ _ _ _ _ _ _ _
      | exact ih4 _ _ _ _ _ _ _ _
      | exact impl_Alarms.mono _ _ _ _ _
      | exact spec_Alarms.mono _ _ _ _ _
      | exact spec_TraceOf.mono _ _
      | exact LeO.none _
      | refine LeO.ite ?_ ?_
      | refine LeO.bind ?_ (fun _ => ?_)
    · intro y0 y1 y2 y3 y4
      unfold laws_FnAlarms.l0
      repeat' first
      | (with_reducible exact ih0 _ _ _ _ _)
      | (with_reducible exact ih1 _ _ _ _ _)
      | (with_reducible exact ih2 _ _ _ _ _ _ _ _)
      | (with_reducible exact ih3 _ _ _ _ _ _ _ _)
      | (with_reducible exact ih4 _ _ _ _ _ _ _ _)
      | (with_reducible exact impl_Alarms.mono _ _ _ _ _)
      | (with_reducible exact spec_Alarms.mono _ _ _ _ _)
      | (with_reducible exact spec_TraceOf.mono _ _)
      | (with_reducible exact LeO.refl _)
      | (with_reducible exact LeO.none _)
      | (with_reducible refine LeO.ite ?_ ?_)
      | (with_reducible refine LeO.bind ?_ (fun _ => ?_))
      | exact ih0 _ _ _ _ _
      | exact ih1 _ _ _ _ _
      | exact ih2 _ _ _ _ _ _ _ _
      | exact ih3 _ _ _ _ _ _ _ _
      | exact ih4 _ _ _ _ _ _ _ _
      | exact impl_Alarms.mono _ _ _ _ _
      | exact spec_Alarms.mono _ _ _ _ _
      | exact spec_TraceOf.mono _ _
      | exact LeO.none _
      | refine LeO.ite ?_ ?_
      | refine LeO.bind ?_ (fun _ => ?_)
    · intro y0 y1 y2 y3 y4 y5 y6 y7
      unfold laws_FnAlarms.j2
      repeat' first
      | (with_reducible exact ih0 _ _ _ _ _)
      | (with_reducible exact ih1 _ _ _ _ _)
      | (with_reducible exact ih2 _ _ _ _ _ _ _ _)
      | (with_reducible exact ih3 _ _ _ _ _ _ _ _)
      | (with_reducible exact ih4 _ _ _ _ _ _ _ _)
      | (with_reducible exact impl_Alarms.mono _ _ _ _ _)
      | (with_reducible exact spec_Alarms.mono _ _ _ _ _)
      | (with_reducible exact spec_TraceOf.mono _ _)
      | (with_reducible exact LeO.refl _)
      | (with_reducible exact LeO.none _)
      | (with_reducible refine LeO.ite ?_ ?_)
      | (with_reducible refine LeO.bind ?_ (fun _ => ?_))
      | exact ih0 _ _ _ _ _
      | exact ih1 _ _ _ _ _
      | exact ih2 _ _ _ _ _ _ _ _
      | exact ih3 _ _ _ _ _ _ _ _
      | exact ih4 _ _ _ _ _ _ _ _
      | exact impl_Alarms.mono _ _ _ _ _
      | exact spec_Alarms.mono _ _ _ _ _
      | exact spec_TraceOf.mono _ _
      | exact LeO.none _
      | refine LeO.ite ?_ ?_
      | refine LeO.bind ?_ (fun _ => ?_)
    · intro y0 y1 y2 y3 y4 y5 y6 y7
      unfold laws_FnAlarms.j3
      repeat' first
      | (with_reducible exact ih0 _ _ _ _ _)
      | (with_reducible exact ih1 _ _ _ _ _)
      | (with_reducible exact ih2 _ _ _ _ _ _ _ _)
      | (with_reducible exact ih3 _ _ _ _ _ _ _ _)
      | (with_reducible exact ih4 _ _ _ _ _ _ _ _)
      | (with_reducible exact impl_Alarms.mono _ _ _ _ _)
      | (with_reducible exact spec_Alarms.mono _ _ _ _ _)
      | (with_reducible exact spec_TraceOf.mono _ _)
      | (with_reducible exact LeO.refl _)
      | (with_reducible exact LeO.none _)
      | (with_reducible refine LeO.ite ?_ ?_)
      | (with_reducible refine LeO.bind ?_ (fun _ => ?_))
      | exact ih0 _ _ _ _ _
      | exact ih1 _ _ _ _ _
      | exact ih2 _ _ _ _ _ _ _ _
      | exact ih3 _ _ _ _ _ _ _ _
      | exact ih4 _ _ _ _ _ _ _ _
      | exact impl_Alarms.mono _ _ _ _ _
      | exact spec_Alarms.mono _ _ _ _ _
      | exact spec_TraceOf.mono _ _
      | exact LeO.none _
      | refine LeO.ite ?_ ?_
      | refine LeO.bind ?_ (fun _ => ?_)
    · intro y0 y1 y2 y3 y4 y5 y6 y7
      unfold laws_FnAlarms.l1
      repeat' first
      | (with_reducible exact ih0 _ _ _ _ _)
      | (with_reducible exact ih1 _ _ _ _ _)
      | (with_reducible exact ih2 _ _ _ _ _ _ _ _)
      | (with_reducible exact ih3 _ _ _ _ _ _ _ _)
      | (with_reducible exact ih4 _ _ _ _ _ _ _ _)
      | (with_reducible exact impl_Alarms.mono _ _ _ _ _)
      | (with_reducible exact spec_Alarms.mono _ _ _ _ _)
      | (with_reducible exact spec_TraceOf.mono _ _)
      | (with_reducible exact LeO.refl _)
      | (with_reducible exact LeO.none _)
      | (with_reducible refine LeO.ite ?_ ?_)
      | (with_reducible refine LeO.bind ?_ (fun _ => ?_))
      | exact ih0 _ _ _ _ _
      | exact ih1 _ _ _ _ _
      | exact ih2 _ _ _ _ _ _ _ _
      | exact ih3 _ _ _ _ _ _ _ _
      | exact ih4 _ _ _ _ _ _ _ _
      | exact impl_Alarms.mono _ _ _ _ _
      | exact spec_Alarms.mono _ _ _ _ _
      | exact spec_TraceOf.mono _ _
      | exact LeO.none _
      | refine LeO.ite ?_ ?_
      | refine LeO.bind ?_ (fun _ => ?_)
theorem laws_FnAlarms.mono : ∀ a0 k, LeO (laws_FnAlarms.f k a0) (laws_FnAlarms.f (k + 1) a0) := by
  intro a0 k
  obtain ⟨ih0, ih1, ih2, ih3, ih4⟩ := laws_FnAlarms.mono_l k
  unfold laws_FnAlarms.f
  repeat' first
      | (with_reducible exact ih0 _ _ _ _ _)
      | (with_reducible exact ih1 _ _ _ _ _)
      | (with_reducible exact ih2 _ _ _ _ _ _ _ _)
      | (with_reducible exact ih3 _ _ _ _ _ _ _ _)
      | (with_reducible exact ih4 _ _ _ _ _ _ _ _)
      | (with_reducible exact impl_Alarms.mono _ _ _ _ _)
      | (with_reducible exact spec_Alarms.mono _ _ _ _ _)
      | (with_reducible exact spec_TraceOf.mono _ _)
      | (with_reducible exact LeO.refl _)
      | (with_reducible exact LeO.none _)
      | (with_reducible refine LeO.ite ?_ ?_)
      | (with_reducible refine LeO.bind ?_ (fun _ => ?_))
      | exact ih0 _ _ _ _ _
      | exact ih1 _ _ _ _ _
      | exact ih2 _ _ _ _ _ _ _ _
      | exact ih3 _ _ _ _ _ _ _ _
      | exact ih4 _ _ _ _ _ _ _ _
      | exact impl_Alarms.mono _ _ _ _ _
      | exact spec_Alarms.mono _ _ _ _ _
      | exact spec_TraceOf.mono _ _
      | exact LeO.none _
      | refine LeO.ite ?_ ?_
      | refine LeO.bind ?_ (fun _ => ?_)
def laws_FnAlarms.g (k : Nat) (t162 : List Nat) (t163 : Nat) (t164 : Nat) (t165 : Int) : Option (Bool) := ((impl_Alarms.f k t162 t163 t164 t165).bind fun bt168 => ((impl_Alarms.f k t162 t163 t164 (wrap64 (t165 + 1))).bind fun bt172 => ((spec_Alarms.f k t162 t163 t164 t165).bind fun bt176 => (if bt168.2 = 0 then (if bt172.2 = 0 then (if (bt172.1.length : Int) > (bt168.1.length : Int) then (laws_FnAlarms.j0 k t162 t163 t164 bt168.1 true) else (laws_FnAlarms.j0 k t162 t163 t164 bt168.1 ((bt168.1.length : Int) != (bt176.1.length : Int)))) else (laws_FnAlarms.j0 k t162 t163 t164 bt168.1 true)) else (laws_FnAlarms.j0 k t162 t163 t164 bt168.1 true)))))
set_option maxHeartbeats 8000000 in
set_option maxRecDepth 100000 in
theorem laws_FnAlarms.calls (A0 : Option Addr) (c0 : Nat) (l0 : List Int) (hlb : trByt l0) (r : Bool) (hT : r = true) (w : World) (hr0 : Kd.C (Kd.int .u8) w A0 l0.length l0) (hc0 : l0.length ≤ c0) (h : ∀ t162 t163 t164 t165, TrOK t162 t163 t164 t165 → ∃ k, laws_FnAlarms.g k t162 t163 t164 t165 = some r) :
    Calls Try.prog 4 #[.slice A0 l0.length c0] w fun e w' => e = .returned (.bool r) ∧ Below w.heap.size w w' := by
  have hu42 := Try.underlying42
  have HR0 := Aside0.mk hr0
  have HC0 := Aside0.mk hc0
  clear hr0 hc0
  have HB := Aside0.mk (Below.refl w.heap.size w)
  have HLB := Aside0.mk hlb
  have HH := Aside0.mk h
  have HT_ := Aside0.mk hT
  clear hlb hT
  clear h
  by_cases c2 : (l0.length : Int) > 1048576
  · have H : some true = some r := by rw [HT_.out]
    have c2b0 : decide (1048576 < (l0.length : Int)) = true := decide_eq_true c2
    have c2b1 : decide (1048576 < l0.length) = true := decide_eq_true (by omega)
    clear c2
    obtain rfl := Option.some.inj H
    go_enter Try.func4, Try.ntmps4
    go_wp2
    repeat (go_quiet (fail); try go_wp2)
    go_ret
    exact ⟨by first | rfl | (simp [errW_none, errW_some] <;> rfl) | (simp [*, errW_none, errW_some] <;> rfl), by repeat (first | (with_reducible first | exact HB.out | apply below_alloc | apply pw_below_drewN | apply below_drew1) | exact HB.out)⟩
  · skip
    have c2b0 : decide (1048576 < (l0.length : Int)) = false := decide_eq_false c2
    have c2b1 : decide (1048576 < l0.length) = false := decide_eq_false (by omega)
    clear c2
    go_enter Try.func4, Try.ntmps4
    go_upto_region 7 with (first | (go_at_call 17; (with_reducible refine (spec_TraceOf.callsT _ _ l0 HLB.out _ ?side1 ?side2).mono ?_); (case side1 => repeat (first | exact HR0.out | (with_reducible refine Kd.C_alloc ?_ _) | (with_reducible refine Kd.C_drewN ?_ _) | (with_reducible refine Kd.C_drew ?_))); (case side2 => exact HC0.out); rintro e w8 ⟨t162, t163, t164, t165, hTR, v166, rfl, ho0, hb⟩; obtain ⟨k, H⟩ := HH.out _ _ _ _ hTR; clear hTR; replace H : ((impl_Alarms.f k t162 t163 t164 t165).bind fun bt168 => ((impl_Alarms.f k t162 t163 t164 (wrap64 (t165 + 1))).bind fun bt172 => ((spec_Alarms.f k t162 t163 t164 t165).bind fun bt176 => (if bt168.2 = 0 then (if bt172.2 = 0 then (if (bt172.1.length : Int) > (bt168.1.length : Int) then (laws_FnAlarms.j0 k t162 t163 t164 bt168.1 true) else (laws_FnAlarms.j0 k t162 t163 t164 bt168.1 ((bt168.1.length : Int) != (bt176.1.length : Int)))) else (laws_FnAlarms.j0 k t162 t163 t164 bt168.1 true)) else (laws_FnAlarms.j0 k t162 t163 t164 bt168.1 true))))) = some r := H; replace H := Option.bind_eq_some_iff.mp H; obtain ⟨⟨t168, t169⟩, A40, H⟩ := H; replace H : ((impl_Alarms.f k t162 t163 t164 (wrap64 (t165 + 1))).bind fun bt172 => ((spec_Alarms.f k t162 t163 t164 t165).bind fun bt176 => (if t169 = 0 then (if bt172.2 = 0 then (if (bt172.1.length : Int) > (t168.length : Int) then (laws_FnAlarms.j0 k t162 t163 t164 t168 true) else (laws_FnAlarms.j0 k t162 t163 t164 t168 ((t168.length : Int) != (bt176.1.length : Int)))) else (laws_FnAlarms.j0 k t162 t163 t164 t168 true)) else (laws_FnAlarms.j0 k t162 t163 t164 t168 true)))) = some r := H; have A4 := Aside0.mk A40; clear A40; replace H := Option.bind_eq_some_iff.mp H; obtain ⟨⟨t172, t173⟩, A50, H⟩ := H; replace H : ((spec_Alarms.f k t162 t163 t164 t165).bind fun bt176 => (if t169 = 0 then (if t173 = 0 then (if (t172.length : Int) > (t168.length : Int) then (laws_FnAlarms.j0 k t162 t163 t164 t168 true) else (laws_FnAlarms.j0 k t162 t163 t164 t168 ((t168.length : Int) != (bt176.1.length : Int)))) else (laws_FnAlarms.j0 k t162 t163 t164 t168 true)) else (laws_FnAlarms.j0 k t162 t163 t164 t168 true))) = some r := H; have A5 := Aside0.mk A50; clear A50; replace H := Option.bind_eq_some_iff.mp H; obtain ⟨⟨t176, t177⟩, A60, H⟩ := H; replace H : (if t169 = 0 then (if t173 = 0 then (if (t172.length : Int) > (t168.length : Int) then (laws_FnAlarms.j0 k t162 t163 t164 t168 true) else (laws_FnAlarms.j0 k t162 t163 t164 t168 ((t168.length : Int) != (t176.length : Int)))) else (laws_FnAlarms.j0 k t162 t163 t164 t168 true)) else (laws_FnAlarms.j0 k t162 t163 t164 t168 true)) = some r := H; have A6 := Aside0.mk A60; clear A60; have HC7 := Aside0.mk H; clear H; have n0_ := Aside0.mk (Kd.R_lower ho0 (below_size (by repeat (first | (with_reducible first | exact HB.out | apply below_alloc | apply pw_below_drewN | apply below_drew1) | exact HB.out)))); have n1_ := Aside0.mk (below_step (by repeat (first | (with_reducible first | exact HB.out | apply below_alloc | apply pw_below_drewN | apply below_drew1) | exact HB.out)) hb); clear HB; have HO167 := n0_; have HB := n1_; clear n0_ n1_; (try clear hb); (try clear hb2); (try clear hk); (try clear hi); (try clear ho0); obtain ⟨Ao9, co9, eo9⟩ := Kd.R_slice HO167.out; subst eo9) | (go_at_call 18; (with_reducible refine (impl_Alarms.calls k _ _ t162 t163 t164 t165 t168 t169 _ ?side1 ?side2 A4.out).mono ?_); (case side1 => repeat (first | exact (Kd.R_reads' HO167.out).2.2 | (with_reducible refine Kd.C_alloc ?_ _) | (with_reducible refine Kd.C_drewN ?_ _) | (with_reducible refine Kd.C_drew ?_))); (case side2 => exact (Kd.R_reads' HO167.out).2.1); rintro e w10 ⟨v170, rfl, ho0, hb⟩; have n0_ := Aside0.mk (Kd.R_below (by (with_reducible repeat (first | apply Kd.R_alloc | apply Kd.R_drewN | apply Kd.R_drew)); exact HO167.out) hb); have n1_ := Aside0.mk (Kd.R_lower ho0 (below_size (by repeat (first | (with_reducible first | exact HB.out | apply below_alloc | apply pw_below_drewN | apply below_drew1) | exact HB.out)))); have n2_ := Aside0.mk (below_step (by repeat (first | (with_reducible first | exact HB.out | apply below_alloc | apply pw_below_drewN | apply below_drew1) | exact HB.out)) hb); clear HO167; clear HB; have HO167 := n0_; have HO171 := n1_; have HB := n2_; clear n0_ n1_ n2_; (try clear hb); (try clear hb2); (try clear hk); (try clear hi); (try clear ho0)) | (go_at_call 18; (with_reducible refine (impl_Alarms.calls k _ _ t162 t163 t164 (wrap64 (t165 + 1)) t172 t173 _ ?side1 ?side2 A5.out).mono ?_); (case side1 => repeat (first | exact (Kd.R_reads' HO167.out).2.2 | (with_reducible refine Kd.C_alloc ?_ _) | (with_reducible refine Kd.C_drewN ?_ _) | (with_reducible refine Kd.C_drew ?_))); (case side2 => exact (Kd.R_reads' HO167.out).2.1); rintro e w11 ⟨v174, rfl, ho0, hb⟩; have n0_ := Aside0.mk (Kd.R_below (by (with_reducible repeat (first | apply Kd.R_alloc | apply Kd.R_drewN | apply Kd.R_drew)); exact HO167.out) hb); have n1_ := Aside0.mk (Kd.R_elder' (by (with_reducible repeat (first | apply Kd.R_alloc | apply Kd.R_drewN | apply Kd.R_drew)); exact HO171.out) (Kd.R_base ho0) hb); have n2_ := Aside0.mk (Kd.R_lower (Kd.R_new' ho0 (Kd.R_lt (by (with_reducible repeat (first | apply Kd.R_alloc | apply Kd.R_drewN | apply Kd.R_drew)); exact HO171.out))) (below_size (by repeat (first | (with_reducible first | exact HB.out | apply below_alloc | apply pw_below_drewN | apply below_drew1) | exact HB.out)))); have n3_ := Aside0.mk (below_step (by repeat (first | (with_reducible first | exact HB.out | apply below_alloc | apply pw_below_drewN | apply below_drew1) | exact HB.out)) hb); clear HO167; clear HO171; clear HB; have HO167 := n0_; have HO171 := n1_; have HO175 := n2_; have HB := n3_; clear n0_ n1_ n2_ n3_; (try clear hb); (try clear hb2); (try clear hk); (try clear hi); (try clear ho0)) | (go_at_call 19; (with_reducible refine (spec_Alarms.calls k _ _ t162 t163 t164 t165 t176 t177 _ ?side1 ?side2 A6.out).mono ?_); (case side1 => repeat (first | exact (Kd.R_reads' HO167.out).2.2 | (with_reducible refine Kd.C_alloc ?_ _) | (with_reducible refine Kd.C_drewN ?_ _) | (with_reducible refine Kd.C_drew ?_))); (case side2 => exact (Kd.R_reads' HO167.out).2.1); rintro e w12 ⟨v178, rfl, ho0, hb⟩; have n0_ := Aside0.mk (Kd.R_below (by (with_reducible repeat (first | apply Kd.R_alloc | apply Kd.R_drewN | apply Kd.R_drew)); exact HO167.out) hb); have n1_ := Aside0.mk (Kd.R_elder' (by (with_reducible repeat (first | apply Kd.R_alloc | apply Kd.R_drewN | apply Kd.R_drew)); exact HO171.out) (Kd.R_base ho0) hb); have n2_ := Aside0.mk (Kd.R_elder' (by (with_reducible repeat (first | apply Kd.R_alloc | apply Kd.R_drewN | apply Kd.R_drew)); exact HO175.out) (Kd.R_base ho0) hb); have n3_ := Aside0.mk (Kd.R_lower (Kd.R_new' (Kd.R_new' ho0 (Kd.R_lt (by (with_reducible repeat (first | apply Kd.R_alloc | apply Kd.R_drewN | apply Kd.R_drew)); exact HO171.out))) (Kd.R_lt (by (with_reducible repeat (first | apply Kd.R_alloc | apply Kd.R_drewN | apply Kd.R_drew)); exact HO175.out))) (below_size (by repeat (first | (with_reducible first | exact HB.out | apply below_alloc | apply pw_below_drewN | apply below_drew1) | exact HB.out)))); have n4_ := Aside0.mk (below_step (by repeat (first | (with_reducible first | exact HB.out | apply below_alloc | apply pw_below_drewN | apply below_drew1) | exact HB.out)) hb); clear HO167; clear HO171; clear HO175; clear HB; have HO167 := n0_; have HO171 := n1_; have HO175 := n2_; have HO179 := n3_; have HB := n4_; clear n0_ n1_ n2_ n3_ n4_; (try clear hb); (try clear hb2); (try clear hk); (try clear hi); (try clear ho0)))
    repeat (go_quiet (first | (go_at_call 17; (with_reducible refine (spec_TraceOf.callsT _ _ l0 HLB.out _ ?side1 ?side2).mono ?_); (case side1 => repeat (first | exact HR0.out | (with_reducible refine Kd.C_alloc ?_ _) | (with_reducible refine Kd.C_drewN ?_ _) | (with_reducible refine Kd.C_drew ?_))); (case side2 => exact HC0.out); rintro e w8 ⟨t162, t163, t164, t165, hTR, v166, rfl, ho0, hb⟩; obtain ⟨k, H⟩ := HH.out _ _ _ _ hTR; clear hTR; replace H : ((impl_Alarms.f k t162 t163 t164 t165).bind fun bt168 => ((impl_Alarms.f k t162 t163 t164 (wrap64 (t165 + 1))).bind fun bt172 => ((spec_Alarms.f k t162 t163 t164 t165).bind fun bt176 => (if bt168.2 = 0 then (if bt172.2 = 0 then (if (bt172.1.length : Int) > (bt168.1.length : Int) then (laws_FnAlarms.j0 k t162 t163 t164 bt168.1 true) else (laws_FnAlarms.j0 k t162 t163 t164 bt168.1 ((bt168.1.length : Int) != (bt176.1.length : Int)))) else (laws_FnAlarms.j0 k t162 t163 t164 bt168.1 true)) else (laws_FnAlarms.j0 k t162 t163 t164 bt168.1 true))))) = some r := H; replace H := Option.bind_eq_some_iff.mp H; obtain ⟨⟨t168, t169⟩, A40, H⟩ := H; replace H : ((impl_Alarms.f k t162 t163 t164 (wrap64 (t165 + 1))).bind fun bt172 => ((spec_Alarms.f k t162 t163 t164 t165).bind fun bt176 => (if t169 = 0 then (if bt172.2 = 0 then (if (bt172.1.length : Int) > (t168.length : Int) then (laws_FnAlarms.j0 k t162 t163 t164 t168 true) else (laws_FnAlarms.j0 k t162 t163 t164 t168 ((t168.length : Int) != (bt176.1.length : Int)))) else (laws_FnAlarms.j0 k t162 t163 t164 t168 true)) else (laws_FnAlarms.j0 k t162 t163 t164 t168 true)))) = some r := H; have A4 := Aside0.mk A40; clear A40; replace H := Option.bind_eq_some_iff.mp H; obtain ⟨⟨t172, t173⟩, A50, H⟩ := H; replace H : ((spec_Alarms.f k t162 t163 t164 t165).bind fun bt176 => (if t169 = 0 then (if t173 = 0 then (if (t172.length : Int) > (t168.length : Int) then (laws_FnAlarms.j0 k t162 t163 t164 t168 true) else (laws_FnAlarms.j0 k t162 t163 t164 t168 ((t168.length : Int) != (bt176.1.length : Int)))) else (laws_FnAlarms.j0 k t162 t163 t164 t168 true)) else (laws_FnAlarms.j0 k t162 t163 t164 t168 true))) = some r := H; have A5 := Aside0.mk A50; clear A50; replace H := Option.bind_eq_some_iff.mp H; obtain ⟨⟨t176, t177⟩, A60, H⟩ := H; replace H : (if t169 = 0 then (if t173 = 0 then (if (t172.length : Int) > (t168.length : Int) then (laws_FnAlarms.j0 k t162 t163 t164 t168 true) else (laws_FnAlarms.j0 k t162 t163 t164 t168 ((t168.length : Int) != (t176.length : Int)))) else (laws_FnAlarms.j0 k t162 t163 t164 t168 true)) else (laws_FnAlarms.j0 k t162 t163 t164 t168 true)) = some r := H; have A6 := Aside0.mk A60; clear A60; have HC7 := Aside0.mk H; clear H; have n0_ := Aside0.mk (Kd.R_lower ho0 (below_size (by repeat (first | (with_reducible first | exact HB.out | apply below_alloc | apply pw_below_drewN | apply below_drew1) | exact HB.out)))); have n1_ := Aside0.mk (below_step (by repeat (first | (with_reducible first | exact HB.out | apply below_alloc | apply pw_below_drewN | apply below_drew1) | exact HB.out)) hb); clear HB; have HO167 := n0_; have HB := n1_; clear n0_ n1_; (try clear hb); (try clear hb2); (try clear hk); (try clear hi); (try clear ho0); obtain ⟨Ao9, co9, eo9⟩ := Kd.R_slice HO167.out; subst eo9) | (go_at_call 18; (with_reducible refine (impl_Alarms.calls k _ _ t162 t163 t164 t165 t168 t169 _ ?side1 ?side2 A4.out).mono ?_); (case side1 => repeat (first | exact (Kd.R_reads' HO167.out).2.2 | (with_reducible refine Kd.C_alloc ?_ _) | (with_reducible refine Kd.C_drewN ?_ _) | (with_reducible refine Kd.C_drew ?_))); (case side2 => exact (Kd.R_reads' HO167.out).2.1); rintro e w10 ⟨v170, rfl, ho0, hb⟩; have n0_ := Aside0.mk (Kd.R_below (by (with_reducible repeat (first | apply Kd.R_alloc | apply Kd.R_drewN | apply Kd.R_drew)); exact HO167.out) hb); have n1_ := Aside0.mk (Kd.R_lower ho0 (below_size (by repeat (first | (with_reducible first | exact HB.out | apply below_alloc | apply pw_below_drewN | apply below_drew1) | exact HB.out)))); have n2_ := Aside0.mk (below_step (by repeat (first | (with_reducible first | exact HB.out | apply below_alloc | apply pw_below_drewN | apply below_drew1) | exact HB.out)) hb); clear HO167; clear HB; have HO167 := n0_; have HO171 := n1_; have HB := n2_; clear n0_ n1_ n2_; (try clear hb); (try clear hb2); (try clear hk); (try clear hi); (try clear ho0)) | (go_at_call 18; (with_reducible refine (impl_Alarms.calls k _ _ t162 t163 t164 (wrap64 (t165 + 1)) t172 t173 _ ?side1 ?side2 A5.out).mono ?_); (case side1 => repeat (first | exact (Kd.R_reads' HO167.out).2.2 | (with_reducible refine Kd.C_alloc ?_ _) | (with_reducible refine Kd.C_drewN ?_ _) | (with_reducible refine Kd.C_drew ?_))); (case side2 => exact (Kd.R_reads' HO167.out).2.1); rintro e w11 ⟨v174, rfl, ho0, hb⟩; have n0_ := Aside0.mk (Kd.R_below (by (with_reducible repeat (first | apply Kd.R_alloc | apply Kd.R_drewN | apply Kd.R_drew)); exact HO167.out) hb); have n1_ := Aside0.mk (Kd.R_elder' (by (with_reducible repeat (first | apply Kd.R_alloc | apply Kd.R_drewN | apply Kd.R_drew)); exact HO171.out) (Kd.R_base ho0) hb); have n2_ := Aside0.mk (Kd.R_lower (Kd.R_new' ho0 (Kd.R_lt (by (with_reducible repeat (first | apply Kd.R_alloc | apply Kd.R_drewN | apply Kd.R_drew)); exact HO171.out))) (below_size (by repeat (first | (with_reducible first | exact HB.out | apply below_alloc | apply pw_below_drewN | apply below_drew1) | exact HB.out)))); have n3_ := Aside0.mk (below_step (by repeat (first | (with_reducible first | exact HB.out | apply below_alloc | apply pw_below_drewN | apply below_drew1) | exact HB.out)) hb); clear HO167; clear HO171; clear HB; have HO167 := n0_; have HO171 := n1_; have HO175 := n2_; have HB := n3_; clear n0_ n1_ n2_ n3_; (try clear hb); (try clear hb2); (try clear hk); (try clear hi); (try clear ho0)) | (go_at_call 19; (with_reducible refine (spec_Alarms.calls k _ _ t162 t163 t164 t165 t176 t177 _ ?side1 ?side2 A6.out).mono ?_); (case side1 => repeat (first | exact (Kd.R_reads' HO167.out).2.2 | (with_reducible refine Kd.C_alloc ?_ _) | (with_reducible refine Kd.C_drewN ?_ _) | (with_reducible refine Kd.C_drew ?_))); (case side2 => exact (Kd.R_reads' HO167.out).2.1); rintro e w12 ⟨v178, rfl, ho0, hb⟩; have n0_ := Aside0.mk (Kd.R_below (by (with_reducible repeat (first | apply Kd.R_alloc | apply Kd.R_drewN | apply Kd.R_drew)); exact HO167.out) hb); have n1_ := Aside0.mk (Kd.R_elder' (by (with_reducible repeat (first | apply Kd.R_alloc | apply Kd.R_drewN | apply Kd.R_drew)); exact HO171.out) (Kd.R_base ho0) hb); have n2_ := Aside0.mk (Kd.R_elder' (by (with_reducible repeat (first | apply Kd.R_alloc | apply Kd.R_drewN | apply Kd.R_drew)); exact HO175.out) (Kd.R_base ho0) hb); have n3_ := Aside0.mk (Kd.R_lower (Kd.R_new' (Kd.R_new' ho0 (Kd.R_lt (by (with_reducible repeat (first | apply Kd.R_alloc | apply Kd.R_drewN | apply Kd.R_drew)); exact HO171.out))) (Kd.R_lt (by (with_reducible repeat (first | apply Kd.R_alloc | apply Kd.R_drewN | apply Kd.R_drew)); exact HO175.out))) (below_size (by repeat (first | (with_reducible first | exact HB.out | apply below_alloc | apply pw_below_drewN | apply below_drew1) | exact HB.out)))); have n4_ := Aside0.mk (below_step (by repeat (first | (with_reducible first | exact HB.out | apply below_alloc | apply pw_below_drewN | apply below_drew1) | exact HB.out)) hb); clear HO167; clear HO171; clear HO175; clear HB; have HO167 := n0_; have HO171 := n1_; have HO175 := n2_; have HO179 := n3_; have HB := n4_; clear n0_ n1_ n2_ n3_ n4_; (try clear hb); (try clear hb2); (try clear hk); (try clear hi); (try clear ho0))); go_upto_region 7 with (first | (go_at_call 17; (with_reducible refine (spec_TraceOf.callsT _ _ l0 HLB.out _ ?side1 ?side2).mono ?_); (case side1 => repeat (first | exact HR0.out | (with_reducible refine Kd.C_alloc ?_ _) | (with_reducible refine Kd.C_drewN ?_ _) | (with_reducible refine Kd.C_drew ?_))); (case side2 => exact HC0.out); rintro e w8 ⟨t162, t163, t164, t165, hTR, v166, rfl, ho0, hb⟩; obtain ⟨k, H⟩ := HH.out _ _ _ _ hTR; clear hTR; replace H : ((impl_Alarms.f k t162 t163 t164 t165).bind fun bt168 => ((impl_Alarms.f k t162 t163 t164 (wrap64 (t165 + 1))).bind fun bt172 => ((spec_Alarms.f k t162 t163 t164 t165).bind fun bt176 => (if bt168.2 = 0 then (if bt172.2 = 0 then (if (bt172.1.length : Int) > (bt168.1.length : Int) then (laws_FnAlarms.j0 k t162 t163 t164 bt168.1 true) else (laws_FnAlarms.j0 k t162 t163 t164 bt168.1 ((bt168.1.length : Int) != (bt176.1.length : Int)))) else (laws_FnAlarms.j0 k t162 t163 t164 bt168.1 true)) else (laws_FnAlarms.j0 k t162 t163 t164 bt168.1 true))))) = some r := H; replace H := Option.bind_eq_some_iff.mp H; obtain ⟨⟨t168, t169⟩, A40, H⟩ := H; replace H : ((impl_Alarms.f k t162 t163 t164 (wrap64 (t165 + 1))).bind fun bt172 => ((spec_Alarms.f k t162 t163 t164 t165).bind fun bt176 => (if t169 = 0 then (if bt172.2 = 0 then (if (bt172.1.length : Int) > (t168.length : Int) then (laws_FnAlarms.j0 k t162 t163 t164 t168 true) else (laws_FnAlarms.j0 k t162 t163 t164 t168 ((t168.length : Int) != (bt176.1.length : Int)))) else (laws_FnAlarms.j0 k t162 t163 t164 t168 true)) else (laws_FnAlarms.j0 k t162 t163 t164 t168 true)))) = some r := H; have A4 := Aside0.mk A40; clear A40; replace H := Option.bind_eq_some_iff.mp H; obtain ⟨⟨t172, t173⟩, A50, H⟩ := H; replace H : ((spec_Alarms.f k t162 t163 t164 t165).bind fun bt176 => (if t169 = 0 then (if t173 = 0 then (if (t172.length : Int) > (t168.length : Int) then (laws_FnAlarms.j0 k t162 t163 t164 t168 true) else (laws_FnAlarms.j0 k t162 t163 t164 t168 ((t168.length : Int) != (bt176.1.length : Int)))) else (laws_FnAlarms.j0 k t162 t163 t164 t168 true)) else (laws_FnAlarms.j0 k t162 t163 t164 t168 true))) = some r := H; have A5 := Aside0.mk A50; clear A50; replace H := Option.bind_eq_some_iff.mp H; obtain ⟨⟨t176, t177⟩, A60, H⟩ := H; replace H : (if t169 = 0 then (if t173 = 0 then (if (t172.length : Int) > (t168.length : Int) then (laws_FnAlarms.j0 k t162 t163 t164 t168 true) else (laws_FnAlarms.j0 k t162 t163 t164 t168 ((t168.length : Int) != (t176.length : Int)))) else (laws_FnAlarms.j0 k t162 t163 t164 t168 true)) else (laws_FnAlarms.j0 k t162 t163 t164 t168 true)) = some r := H; have A6 := Aside0.mk A60; clear A60; have HC7 := Aside0.mk H; clear H; have n0_ := Aside0.mk (Kd.R_lower ho0 (below_size (by repeat (first | (with_reducible first | exact HB.out | apply below_alloc | apply pw_below_drewN | apply below_drew1) | exact HB.out)))); have n1_ := Aside0.mk (below_step (by repeat (first | (with_reducible first | exact HB.out | apply below_alloc | apply pw_below_drewN | apply below_drew1) | exact HB.out)) hb); clear HB; have HO167 := n0_; have HB := n1_; clear n0_ n1_; (try clear hb); (try clear hb2); (try clear hk); (try clear hi); (try clear ho0); obtain ⟨Ao9, co9, eo9⟩ := Kd.R_slice HO167.out; subst eo9) | (go_at_call 18; (with_reducible refine (impl_Alarms.calls k _ _ t162 t163 t164 t165 t168 t169 _ ?side1 ?side2 A4.out).mono ?_); (case side1 => repeat (first | exact (Kd.R_reads' HO167.out).2.2 | (with_reducible refine Kd.C_alloc ?_ _) | (with_reducible refine Kd.C_drewN ?_ _) | (with_reducible refine Kd.C_drew ?_))); (case side2 => exact (Kd.R_reads' HO167.out).2.1); rintro e w10 ⟨v170, rfl, ho0, hb⟩; have n0_ := Aside0.mk (Kd.R_below (by (with_reducible repeat (first | apply Kd.R_alloc | apply Kd.R_drewN | apply Kd.R_drew)); exact HO167.out) hb); have n1_ := Aside0.mk (Kd.R_lower ho0 (below_size (by repeat (first | (with_reducible first | exact HB.out | apply below_alloc | apply pw_below_drewN | apply below_drew1) | exact HB.out)))); have n2_ := Aside0.mk (below_step (by repeat (first | (with_reducible first | exact HB.out | apply below_alloc | apply pw_below_drewN | apply below_drew1) | exact HB.out)) hb); clear HO167; clear HB; have HO167 := n0_; have HO171 := n1_; have HB := n2_; clear n0_ n1_ n2_; (try clear hb); (try clear hb2); (try clear hk); (try clear hi); (try clear ho0)) | (go_at_call 18; (with_reducible refine (impl_Alarms.calls k _ _ t162 t163 t164 (wrap64 (t165 + 1)) t172 t173 _ ?side1 ?side2 A5.out).mono ?_); (case side1 => repeat (first | exact (Kd.R_reads' HO167.out).2.2 | (with_reducible refine Kd.C_alloc ?_ _) | (with_reducible refine Kd.C_drewN ?_ _) | (with_reducible refine Kd.C_drew ?_))); (case side2 => exact (Kd.R_reads' HO167.out).2.1); rintro e w11 ⟨v174, rfl, ho0, hb⟩; have n0_ := Aside0.mk (Kd.R_below (by (with_reducible repeat (first | apply Kd.R_alloc | apply Kd.R_drewN | apply Kd.R_drew)); exact HO167.out) hb); have n1_ := Aside0.mk (Kd.R_elder' (by (with_reducible repeat (first | apply Kd.R_alloc | apply Kd.R_drewN | apply Kd.R_drew)); exact HO171.out) (Kd.R_base ho0) hb); have n2_ := Aside0.mk (Kd.R_lower (Kd.R_new' ho0 (Kd.R_lt (by (with_reducible repeat (first | apply Kd.R_alloc | apply Kd.R_drewN | apply Kd.R_drew)); exact HO171.out))) (below_size (by repeat (first | (with_reducible first | exact HB.out | apply below_alloc | apply pw_below_drewN | apply below_drew1) | exact HB.out)))); have n3_ := Aside0.mk (below_step (by repeat (first | (with_reducible first | exact HB.out | apply below_alloc | apply pw_below_drewN | apply below_drew1) | exact HB.out)) hb); clear HO167; clear HO171; clear HB; have HO167 := n0_; have HO171 := n1_; have HO175 := n2_; have HB := n3_; clear n0_ n1_ n2_ n3_; (try clear hb); (try clear hb2); (try clear hk); (try clear hi); (try clear ho0)) | (go_at_call 19; (with_reducible refine (spec_Alarms.calls k _ _ t162 t163 t164 t165 t176 t177 _ ?side1 ?side2 A6.out).mono ?_); (case side1 => repeat (first | exact (Kd.R_reads' HO167.out).2.2 | (with_reducible refine Kd.C_alloc ?_ _) | (with_reducible refine Kd.C_drewN ?_ _) | (with_reducible refine Kd.C_drew ?_))); (case side2 => exact (Kd.R_reads' HO167.out).2.1); rintro e w12 ⟨v178, rfl, ho0, hb⟩; have n0_ := Aside0.mk (Kd.R_below (by (with_reducible repeat (first | apply Kd.R_alloc | apply Kd.R_drewN | apply Kd.R_drew)); exact HO167.out) hb); have n1_ := Aside0.mk (Kd.R_elder' (by (with_reducible repeat (first | apply Kd.R_alloc | apply Kd.R_drewN | apply Kd.R_drew)); exact HO171.out) (Kd.R_base ho0) hb); have n2_ := Aside0.mk (Kd.R_elder' (by (with_reducible repeat (first | apply Kd.R_alloc | apply Kd.R_drewN | apply Kd.R_drew)); exact HO175.out) (Kd.R_base ho0) hb); have n3_ := Aside0.mk (Kd.R_lower (Kd.R_new' (Kd.R_new' ho0 (Kd.R_lt (by (with_reducible repeat (first | apply Kd.R_alloc | apply Kd.R_drewN | apply Kd.R_drew)); exact HO171.out))) (Kd.R_lt (by (with_reducible repeat (first | apply Kd.R_alloc | apply Kd.R_drewN | apply Kd.R_drew)); exact HO175.out))) (below_size (by repeat (first | (with_reducible first | exact HB.out | apply below_alloc | apply pw_below_drewN | apply below_drew1) | exact HB.out)))); have n4_ := Aside0.mk (below_step (by repeat (first | (with_reducible first | exact HB.out | apply below_alloc | apply pw_below_drewN | apply below_drew1) | exact HB.out)) hb); clear HO167; clear HO171; clear HO175; clear HB; have HO167 := n0_; have HO171 := n1_; have HO175 := n2_; have HO179 := n3_; have HB := n4_; clear n0_ n1_ n2_ n3_ n4_; (try clear hb); (try clear hb2); (try clear hk); (try clear hi); (try clear ho0))))
    (try simp only [Act.put, List.setIfInBounds_toArray, List.set_cons_zero, List.set_cons_succ])
    go_cut [70] (fun v70 wc => ∃ (kq : Nat) (x70_6 : Bool), v70 = .bool x70_6 ∧ Aside0 (laws_FnAlarms.j0 kq t162 t163 t164 t168 x70_6 = some r) ∧ Aside0 (kq ≤ k) ∧ Aside0 (Kd.R (Opens.flt .f64) 35 wc w.heap.size (fun _ => True) (.slice Ao9 t162.length co9) t162) ∧ Aside0 (Kd.R k42 42 wc w.heap.size (fun _ => True) v170 t168) ∧ Aside0 (Below w.heap.size w wc))
    case first =>
      have H := HC7.out
      clear HC7
      by_cases c13 : t169 = 0
      · rw [if_pos c13] at H
        have c13b0 : (t169 == 0) = true := beq_iff_eq.mpr c13
        have c13b1 : (t169 != 0) = false := bne_eq_false_iff_eq.mpr c13
        clear c13
        (first | rw [c13b0] | (simp only [i64_w, i32_w]; rw [c13b0]) | skip)
        by_cases c14 : t173 = 0
        · rw [if_pos c14] at H
          have c14b0 : (t173 == 0) = true := beq_iff_eq.mpr c14
          have c14b1 : (t173 != 0) = false := bne_eq_false_iff_eq.mpr c14
          clear c14
          by_cases c15 : (t172.length : Int) > (t168.length : Int)
          · rw [if_pos c15] at H
            have c15b0 : decide ((t168.length : Int) < (t172.length : Int)) = true := decide_eq_true c15
            have c15b1 : decide (t168.length < t172.length) = true := decide_eq_true (Int.ofNat_lt.mp c15)
            clear c15
            have H' := Aside0.mk H
            clear H
            obtain ⟨Ao16, co16, eo16⟩ := Kd.R_slice HO175.out
            subst eo16
            obtain ⟨Ao17, co17, eo17⟩ := Kd.R_slice HO171.out
            subst eo17
            go_wp2
            repeat (go_quiet (fail); try go_wp2)
            go_meet
            case rel => exact ⟨_, (true), (by first | rfl | (simp; done) | (simp [*]; done)), H', ⟨by first | omega | exact Nat.le_refl _⟩, ⟨by (with_reducible repeat (first | apply Kd.R_alloc | apply Kd.R_drewN | apply Kd.R_drew)); exact HO167.out⟩, ⟨by (with_reducible repeat (first | apply Kd.R_alloc | apply Kd.R_drewN | apply Kd.R_drew)); exact Kd.R_mono HO171.out (fun _ hk => trivial)⟩, ⟨by repeat (first | (with_reducible first | exact HB.out | apply below_alloc | apply pw_below_drewN | apply below_drew1) | exact HB.out)⟩⟩
          · rw [if_neg c15] at H
            have c15b0 : decide ((t168.length : Int) < (t172.length : Int)) = false := decide_eq_false c15
            have c15b1 : decide (t168.length < t172.length) = false := decide_eq_false (fun h => c15 (Int.ofNat_lt.mpr h))
            clear c15
            have H' := Aside0.mk H
            clear H
            obtain ⟨Ao18, co18, eo18⟩ := Kd.R_slice HO175.out
            subst eo18
            obtain ⟨Ao19, co19, eo19⟩ := Kd.R_slice HO171.out
            subst eo19
            obtain ⟨Ao20, co20, eo20⟩ := Kd.R_slice HO179.out
            subst eo20
            go_wp2
            repeat (go_quiet (fail); try go_wp2)
            go_meet
            case rel => exact ⟨_, (((t168.length : Int) != (t176.length : Int))), (by first | rfl | (simp; done) | (simp [*]; done)), H', ⟨by first | omega | exact Nat.le_refl _⟩, ⟨by (with_reducible repeat (first | apply Kd.R_alloc | apply Kd.R_drewN | apply Kd.R_drew)); exact HO167.out⟩, ⟨by (with_reducible repeat (first | apply Kd.R_alloc | apply Kd.R_drewN | apply Kd.R_drew)); exact Kd.R_mono HO171.out (fun _ hk => trivial)⟩, ⟨by repeat (first | (with_reducible first | exact HB.out | apply below_alloc | apply pw_below_drewN | apply below_drew1) | exact HB.out)⟩⟩
        · rw [if_neg c14] at H
          have c14b0 : (t173 == 0) = false := beq_eq_false_iff_ne.mpr c14
          have c14b1 : (t173 != 0) = true := bne_iff_ne.mpr c14
          have H' := Aside0.mk H
          clear H
          go_wp2
          repeat (go_quiet (fail); try go_wp2)
          go_meet
          case rel => exact ⟨_, (true), (by first | rfl | (simp; done) | (simp [*]; done)), H', ⟨by first | omega | exact Nat.le_refl _⟩, ⟨by (with_reducible repeat (first | apply Kd.R_alloc | apply Kd.R_drewN | apply Kd.R_drew)); exact HO167.out⟩, ⟨by (with_reducible repeat (first | apply Kd.R_alloc | apply Kd.R_drewN | apply Kd.R_drew)); exact Kd.R_mono HO171.out (fun _ hk => trivial)⟩, ⟨by repeat (first | (with_reducible first | exact HB.out | apply below_alloc | apply pw_below_drewN | apply below_drew1) | exact HB.out)⟩⟩
      · rw [if_neg c13] at H
        have c13b0 : (t169 == 0) = false := beq_eq_false_iff_ne.mpr c13
        have c13b1 : (t169 != 0) = true := bne_iff_ne.mpr c13
        (first | rw [c13b0] | (simp only [i64_w, i32_w]; rw [c13b0]) | skip)
        have H' := Aside0.mk H
        clear H
        go_wp2
        repeat (go_quiet (fail); try go_wp2)
        go_meet
        case rel => exact ⟨_, (true), (by first | rfl | (simp; done) | (simp [*]; done)), H', ⟨by first | omega | exact Nat.le_refl _⟩, ⟨by (with_reducible repeat (first | apply Kd.R_alloc | apply Kd.R_drewN | apply Kd.R_drew)); exact HO167.out⟩, ⟨by (with_reducible repeat (first | apply Kd.R_alloc | apply Kd.R_drewN | apply Kd.R_drew)); exact Kd.R_mono HO171.out (fun _ hk => trivial)⟩, ⟨by repeat (first | (with_reducible first | exact HB.out | apply below_alloc | apply pw_below_drewN | apply below_drew1) | exact HB.out)⟩⟩
    case rest =>
      clear HC7
      try clear c1
      try clear c2
      try clear c2b0
      try clear c2b1
      try clear p2
      try clear c4
      try clear p6
      try clear c13
      try clear c13b0
      try clear c13b1
      try clear c14
      try clear c14b0
      try clear c14b1
      try clear c15
      try clear c15b0
      try clear c15b1
      obtain ⟨kq, x70_6, rfl, HA, HJ6, HO_3, HO_7, HB⟩ := hcut
      cases kq with
      | zero => exact absurd HA.out (by simp [laws_FnAlarms.j0])
      | succ kj6 =>
        have H := HA.out
        clear HA
        simp only [laws_FnAlarms.j0] at H
        by_cases c21 : x70_6 = true
        · subst c21
          have H1 : (some false) = some r := by rw [if_pos rfl] at H; exact H
          clear H
          have H := H1
          clear H1
          obtain rfl := Option.some.inj H
          go_wp2
          repeat (go_quiet (fail); try go_wp2)
          go_ret
          exact ⟨by first | rfl | (simp [errW_none, errW_some] <;> rfl) | (simp [*, errW_none, errW_some] <;> rfl), by repeat (first | (with_reducible first | exact HB.out | apply below_alloc | apply pw_below_drewN | apply below_drew1) | exact HB.out)⟩
        · replace c21 := Bool.eq_false_iff.mpr c21
          subst c21
          have H1 : (laws_FnAlarms.l0 kj6 t162 t163 t164 t168 0) = some r := by rw [if_neg (show ¬ (false = true) by decide)] at H; exact H
          clear H
          have H := H1
          clear H1
          have H' := Aside0.mk H
          clear H
          go_wp2
          repeat (go_quiet (fail); try go_wp2)
          go_loopg [13] kj6 (fun kq v13 w' => ∃ (x13_2 : Int), v13 = .int .i64 x13_2 ∧ Aside0 (laws_FnAlarms.l0 kq t162 t163 t164 t168 x13_2 = some r) ∧ Aside0 (kq ≤ kj6) ∧ Aside0 (Kd.R (Opens.flt .f64) 35 w' w.heap.size (fun _ => True) (.slice Ao9 t162.length co9) t162) ∧ Aside0 (Kd.R k42 42 w' w.heap.size (fun _ => True) v170 t168) ∧ Aside0 (Below w.heap.size w w'))
          case atStart => exact ⟨(0), (by first | rfl | (simp; done) | (simp [*]; done)), H', ⟨Nat.le_refl _⟩, ⟨by (with_reducible repeat (first | apply Kd.R_alloc | apply Kd.R_drewN | apply Kd.R_drew)); exact HO_3.out⟩, ⟨by (with_reducible repeat (first | apply Kd.R_alloc | apply Kd.R_drewN | apply Kd.R_drew)); exact HO_7.out⟩, ⟨by repeat (first | (with_reducible first | exact HB.out | apply below_alloc | apply pw_below_drewN | apply below_drew1) | exact HB.out)⟩⟩
          case round =>
            clear H'
            try clear c1
            try clear c2
            try clear c2b0
            try clear c2b1
            try clear p2
            try clear c4
            try clear p6
            try clear c13
            try clear c13b0
            try clear c13b1
            try clear c14
            try clear c14b0
            try clear c14b1
            try clear c15
            try clear c15b0
            try clear c15b1
            try clear c21
            try clear p2
            try clear p6
            obtain ⟨x13_2, rfl, HA, HK2, HO_3, HO_7, HB⟩ := hrel
            cases gk with
            | zero => exact absurd HA.out (by simp [laws_FnAlarms.l0])
            | succ k2 =>
              have H := HA.out
              clear HA
              simp only [laws_FnAlarms.l0] at H
              by_cases c22 : x13_2 < (t168.length : Int)
              · rw [if_pos c22] at H
                have c22b0 : decide (x13_2 < (t168.length : Int)) = true := decide_eq_true c22
                clear c22
                by_cases c23 : 0 ≤ x13_2
                · rw [if_pos c23] at H
                  have c23b0 : decide (0 ≤ x13_2) = true := decide_eq_true c23
                  clear c23
                  have HC24 := Aside0.mk H
                  clear H
                  obtain ⟨Ao25, co25, eo25⟩ := Kd.R_slice HO_7.out
                  subst eo25
                  have p180 : 0 ≤ (x13_2 : Int) := of_decide_eq_true (by first | (with_reducible assumption) | assumption)
                  have q180 : x13_2 < (t168.length : Int) := of_decide_eq_true (by first | (with_reducible assumption) | assumption)
                  obtain ⟨ad180, e180, hx180_0, hx180_1⟩ := at_T42 (Kd.R_reads' HO_7.out).2.2 x13_2 p180 q180
                  cases e180
                  replace p180 := eq_true p180
                  replace q180 := eq_true q180
                  go_upto_region 13 with (first | ((with_reducible refine gate_dst (N := 14) rfl ?_); (try (refine gate_guard (by rfl) ?_; dsimp only)); refine box_event ?hg (N := 14) ?hd (cs := #[.int .i64 0, .int .i64 0]) (t := 42) ?hr ?_; (case hd => rfl); (case hg => rfl); (case hr => first | (go_simp; done) | (go_simp; rfl)); intro gb181 hg w26 hbox hb; have n0_ := Aside0.mk (Kd.R_below (by (with_reducible repeat (first | apply Kd.R_alloc | apply Kd.R_drewN | apply Kd.R_drew)); exact HO_3.out) hb); have n1_ := Aside0.mk (Kd.R_below (Kd.R_elderB (by (with_reducible repeat (first | apply Kd.R_alloc | apply Kd.R_drewN | apply Kd.R_drew)); exact HO_7.out) gb181 (Nat.le_of_eq hg.symm)) hb); have n2_ := Aside0.mk (below_step (by repeat (first | (with_reducible first | exact HB.out | apply below_alloc | apply pw_below_drewN | apply below_drew1) | exact HB.out)) hb); have n3_ := Aside0.mk (hbox); have n4_ := Aside0.mk ((by rw [hg]; exact (below_size (by repeat (first | (with_reducible first | exact HB.out | apply below_alloc | apply pw_below_drewN | apply below_drew1) | exact HB.out))) : w.heap.size ≤ gb181)); have n5_ := Aside0.mk ((by rw [hg]; exact (below_size (by repeat (first | (with_reducible first | exact HB.out | apply below_alloc | apply pw_below_drewN | apply below_drew1) | exact HB.out))) : w.heap.size ≤ gb181)); clear HO_3; clear HO_7; clear HB; have HO_3 := n0_; have HO_7 := n1_; have HB := n2_; have BK181 := n3_; have GW181 := n4_; have GE181 := n5_; clear n0_ n1_ n2_ n3_ n4_ n5_; clear hb hbox hg; have hcz27_0 : w26.cell? ⟨gb181, 0, none⟩ = some (.int .i64 0) := (blk_cell BK181.out 0).trans rfl; have hcz27_1 : w26.cell? ⟨gb181, 1, none⟩ = some (.int .i64 0) := (blk_cell BK181.out 1).trans rfl; have hfz27_0 := blk_frozen BK181.out 0; have hfz27_1 := blk_frozen BK181.out 1))
                  repeat (go_quiet (first | ((with_reducible refine gate_dst (N := 14) rfl ?_); (try (refine gate_guard (by rfl) ?_; dsimp only)); refine box_event ?hg (N := 14) ?hd (cs := #[.int .i64 0, .int .i64 0]) (t := 42) ?hr ?_; (case hd => rfl); (case hg => rfl); (case hr => first | (go_simp; done) | (go_simp; rfl)); intro gb181 hg w26 hbox hb; have n0_ := Aside0.mk (Kd.R_below (by (with_reducible repeat (first | apply Kd.R_alloc | apply Kd.R_drewN | apply Kd.R_drew)); exact HO_3.out) hb); have n1_ := Aside0.mk (Kd.R_below (Kd.R_elderB (by (with_reducible repeat (first | apply Kd.R_alloc | apply Kd.R_drewN | apply Kd.R_drew)); exact HO_7.out) gb181 (Nat.le_of_eq hg.symm)) hb); have n2_ := Aside0.mk (below_step (by repeat (first | (with_reducible first | exact HB.out | apply below_alloc | apply pw_below_drewN | apply below_drew1) | exact HB.out)) hb); have n3_ := Aside0.mk (hbox); have n4_ := Aside0.mk ((by rw [hg]; exact (below_size (by repeat (first | (with_reducible first | exact HB.out | apply below_alloc | apply pw_below_drewN | apply below_drew1) | exact HB.out))) : w.heap.size ≤ gb181)); have n5_ := Aside0.mk ((by rw [hg]; exact (below_size (by repeat (first | (with_reducible first | exact HB.out | apply below_alloc | apply pw_below_drewN | apply below_drew1) | exact HB.out))) : w.heap.size ≤ gb181)); clear HO_3; clear HO_7; clear HB; have HO_3 := n0_; have HO_7 := n1_; have HB := n2_; have BK181 := n3_; have GW181 := n4_; have GE181 := n5_; clear n0_ n1_ n2_ n3_ n4_ n5_; clear hb hbox hg; have hcz27_0 : w26.cell? ⟨gb181, 0, none⟩ = some (.int .i64 0) := (blk_cell BK181.out 0).trans rfl; have hcz27_1 : w26.cell? ⟨gb181, 1, none⟩ = some (.int .i64 0) := (blk_cell BK181.out 1).trans rfl; have hfz27_0 := blk_frozen BK181.out 0; have hfz27_1 := blk_frozen BK181.out 1)); go_upto_region 13 with (first | ((with_reducible refine gate_dst (N := 14) rfl ?_); (try (refine gate_guard (by rfl) ?_; dsimp only)); refine box_event ?hg (N := 14) ?hd (cs := #[.int .i64 0, .int .i64 0]) (t := 42) ?hr ?_; (case hd => rfl); (case hg => rfl); (case hr => first | (go_simp; done) | (go_simp; rfl)); intro gb181 hg w26 hbox hb; have n0_ := Aside0.mk (Kd.R_below (by (with_reducible repeat (first | apply Kd.R_alloc | apply Kd.R_drewN | apply Kd.R_drew)); exact HO_3.out) hb); have n1_ := Aside0.mk (Kd.R_below (Kd.R_elderB (by (with_reducible repeat (first | apply Kd.R_alloc | apply Kd.R_drewN | apply Kd.R_drew)); exact HO_7.out) gb181 (Nat.le_of_eq hg.symm)) hb); have n2_ := Aside0.mk (below_step (by repeat (first | (with_reducible first | exact HB.out | apply below_alloc | apply pw_below_drewN | apply below_drew1) | exact HB.out)) hb); have n3_ := Aside0.mk (hbox); have n4_ := Aside0.mk ((by rw [hg]; exact (below_size (by repeat (first | (with_reducible first | exact HB.out | apply below_alloc | apply pw_below_drewN | apply below_drew1) | exact HB.out))) : w.heap.size ≤ gb181)); have n5_ := Aside0.mk ((by rw [hg]; exact (below_size (by repeat (first | (with_reducible first | exact HB.out | apply below_alloc | apply pw_below_drewN | apply below_drew1) | exact HB.out))) : w.heap.size ≤ gb181)); clear HO_3; clear HO_7; clear HB; have HO_3 := n0_; have HO_7 := n1_; have HB := n2_; have BK181 := n3_; have GW181 := n4_; have GE181 := n5_; clear n0_ n1_ n2_ n3_ n4_ n5_; clear hb hbox hg; have hcz27_0 : w26.cell? ⟨gb181, 0, none⟩ = some (.int .i64 0) := (blk_cell BK181.out 0).trans rfl; have hcz27_1 : w26.cell? ⟨gb181, 1, none⟩ = some (.int .i64 0) := (blk_cell BK181.out 1).trans rfl; have hfz27_0 := blk_frozen BK181.out 0; have hfz27_1 := blk_frozen BK181.out 1)))
                  (try simp only [Act.put, List.setIfInBounds_toArray, List.set_cons_zero, List.set_cons_succ])
                  go_cut [122] (fun v122 wc => ∃ (kq : Nat) (x122_23 : Bool), v122 = .bool x122_23 ∧ Aside0 (laws_FnAlarms.j2 kq t162 t163 t164 t168 x13_2 x122_23 ((rd_T42 t168 x13_2).f0) ((rd_T42 t168 x13_2).f1) = some r) ∧ Aside0 (kq ≤ k2) ∧ Aside0 (Kd.R (Opens.flt .f64) 35 wc w.heap.size (fun _ => True) (.slice Ao9 t162.length co9) t162) ∧ Aside0 (Kd.R k42 42 wc w.heap.size (fun k_ => k_ ≠ gb181) (.slice (some ad180) t168.length co25) t168) ∧ Aside0 (wc.heap[gb181]? = some (.cells #[.int .i64 ((rd_T42 t168 x13_2).f0), .int .i64 ((rd_T42 t168 x13_2).f1)] 42 (0, 0))) ∧ Aside0 (Below w.heap.size w wc))
                  case first =>
                    have H := HC24.out
                    clear HC24
                    by_cases c28 : ((rd_T42 t168 x13_2).f0) < 0
                    · rw [if_pos c28] at H
                      have c28b0 : decide (((rd_T42 t168 x13_2).f0) < 0) = true := decide_eq_true c28
                      clear c28
                      (first | rw [c28b0] | (simp only [i64_w, i32_w]; rw [c28b0]) | skip)
                      have H' := Aside0.mk H
                      clear H
                      have hcz29_0 : w26.cell? ⟨gb181, 0, none⟩ = some (.int .i64 0) := (blk_cell BK181.out 0).trans rfl
                      have hcz29_1 : w26.cell? ⟨gb181, 1, none⟩ = some (.int .i64 0) := (blk_cell BK181.out 1).trans rfl
                      have hfz29_0 := blk_frozen BK181.out 0
                      have hfz29_1 := blk_frozen BK181.out 1
                      go_wp2
                      repeat (go_quiet (fail); try go_wp2)
                      go_meet
                      case rel => exact ⟨_, (true), (by first | rfl | (simp; done) | (simp [*]; done)), H', ⟨by have := HJ6.out; have := HK2.out; first | omega | exact Nat.le_refl _⟩, ⟨by (with_reducible repeat (first | apply Kd.R_alloc | apply Kd.R_drewN | apply Kd.R_drew)); exact Kd.R_mono (Kd.R_far (p := ⟨gb181, 1, none⟩) (Kd.R_far (p := ⟨gb181, 0, none⟩) (Kd.R_types HO_3.out BK181.out (by decide)) (fun _ hk => hk.2) (.int .i64 ((rd_T42 t168 x13_2).f0))) (fun _ hk => hk.2) (.int .i64 ((rd_T42 t168 x13_2).f1))) (fun _ hk => trivial)⟩, ⟨by (with_reducible repeat (first | apply Kd.R_alloc | apply Kd.R_drewN | apply Kd.R_drew)); exact Kd.R_mono (Kd.R_far (p := ⟨gb181, 1, none⟩) (Kd.R_far (p := ⟨gb181, 0, none⟩) (Kd.R_mono HO_7.out (fun k_ hk => (⟨hk, hk.2⟩ : _ ∧ k_ ≠ gb181))) (fun _ hk => hk.2) (.int .i64 ((rd_T42 t168 x13_2).f0))) (fun _ hk => hk.2) (.int .i64 ((rd_T42 t168 x13_2).f1))) (fun _ hk => hk.1.2)⟩, ⟨by (with_reducible repeat (first | refine blk_drewN ?_ _ | refine blk_drew ?_ | refine blk_alloc ?_ _)); refine blk_put (cs := #[.int .i64 ((rd_T42 t168 x13_2).f0), .int .i64 0]) ?_ 1 _ rfl; (with_reducible repeat (first | refine blk_drewN ?_ _ | refine blk_drew ?_ | refine blk_alloc ?_ _)); refine blk_put (cs := #[.int .i64 0, .int .i64 0]) ?_ 0 _ rfl; (with_reducible repeat (first | refine blk_drewN ?_ _ | refine blk_drew ?_ | refine blk_alloc ?_ _)); exact BK181.out⟩, ⟨by repeat (first | (with_reducible first | exact HB.out | apply below_alloc | apply pw_below_drewN | apply below_drew1 | refine below_set ?_ GE181.out) | exact HB.out)⟩⟩
                    · rw [if_neg c28] at H
                      have c28b0 : decide (((rd_T42 t168 x13_2).f0) < 0) = false := decide_eq_false c28
                      clear c28
                      (first | rw [c28b0] | (simp only [i64_w, i32_w]; rw [c28b0]) | skip)
                      by_cases c30 : ((rd_T42 t168 x13_2).f0) ≥ ((rd_T42 t168 x13_2).f1)
                      · rw [if_pos c30] at H
                        have c30b0 : decide (((rd_T42 t168 x13_2).f1) ≤ ((rd_T42 t168 x13_2).f0)) = true := decide_eq_true c30
                        clear c30
                        have H' := Aside0.mk H
                        clear H
                        have hcz31_0 : w26.cell? ⟨gb181, 0, none⟩ = some (.int .i64 0) := (blk_cell BK181.out 0).trans rfl
                        have hcz31_1 : w26.cell? ⟨gb181, 1, none⟩ = some (.int .i64 0) := (blk_cell BK181.out 1).trans rfl
                        have hfz31_0 := blk_frozen BK181.out 0
                        have hfz31_1 := blk_frozen BK181.out 1
                        go_wp2
                        repeat (go_quiet (fail); try go_wp2)
                        go_meet
                        case rel => exact ⟨_, (true), (by first | rfl | (simp; done) | (simp [*]; done)), H', ⟨by have := HJ6.out; have := HK2.out; first | omega | exact Nat.le_refl _⟩, ⟨by (with_reducible repeat (first | apply Kd.R_alloc | apply Kd.R_drewN | apply Kd.R_drew)); exact Kd.R_mono (Kd.R_far (p := ⟨gb181, 1, none⟩) (Kd.R_far (p := ⟨gb181, 0, none⟩) (Kd.R_types HO_3.out BK181.out (by decide)) (fun _ hk => hk.2) (.int .i64 ((rd_T42 t168 x13_2).f0))) (fun _ hk => hk.2) (.int .i64 ((rd_T42 t168 x13_2).f1))) (fun _ hk => trivial)⟩, ⟨by (with_reducible repeat (first | apply Kd.R_alloc | apply Kd.R_drewN | apply Kd.R_drew)); exact Kd.R_mono (Kd.R_far (p := ⟨gb181, 1, none⟩) (Kd.R_far (p := ⟨gb181, 0, none⟩) (Kd.R_mono HO_7.out (fun k_ hk => (⟨hk, hk.2⟩ : _ ∧ k_ ≠ gb181))) (fun _ hk => hk.2) (.int .i64 ((rd_T42 t168 x13_2).f0))) (fun _ hk => hk.2) (.int .i64 ((rd_T42 t168 x13_2).f1))) (fun _ hk => hk.1.2)⟩, ⟨by (with_reducible repeat (first | refine blk_drewN ?_ _ | refine blk_drew ?_ | refine blk_alloc ?_ _)); refine blk_put (cs := #[.int .i64 ((rd_T42 t168 x13_2).f0), .int .i64 0]) ?_ 1 _ rfl; (with_reducible repeat (first | refine blk_drewN ?_ _ | refine blk_drew ?_ | refine blk_alloc ?_ _)); refine blk_put (cs := #[.int .i64 0, .int .i64 0]) ?_ 0 _ rfl; (with_reducible repeat (first | refine blk_drewN ?_ _ | refine blk_drew ?_ | refine blk_alloc ?_ _)); exact BK181.out⟩, ⟨by repeat (first | (with_reducible first | exact HB.out | apply below_alloc | apply pw_below_drewN | apply below_drew1 | refine below_set ?_ GE181.out) | exact HB.out)⟩⟩
                      · rw [if_neg c30] at H
                        have c30b0 : decide (((rd_T42 t168 x13_2).f1) ≤ ((rd_T42 t168 x13_2).f0)) = false := decide_eq_false c30
                        clear c30
                        by_cases c32 : ((rd_T42 t168 x13_2).f1) > (t162.length : Int)
                        · rw [if_pos c32] at H
                          have c32b0 : decide ((t162.length : Int) < ((rd_T42 t168 x13_2).f1)) = true := decide_eq_true c32
                          clear c32
                          have H' := Aside0.mk H
                          clear H
                          have hcz33_0 : w26.cell? ⟨gb181, 0, none⟩ = some (.int .i64 0) := (blk_cell BK181.out 0).trans rfl
                          have hcz33_1 : w26.cell? ⟨gb181, 1, none⟩ = some (.int .i64 0) := (blk_cell BK181.out 1).trans rfl
                          have hfz33_0 := blk_frozen BK181.out 0
                          have hfz33_1 := blk_frozen BK181.out 1
                          go_wp2
                          repeat (go_quiet (fail); try go_wp2)
                          go_meet
                          case rel => exact ⟨_, (true), (by first | rfl | (simp; done) | (simp [*]; done)), H', ⟨by have := HJ6.out; have := HK2.out; first | omega | exact Nat.le_refl _⟩, ⟨by (with_reducible repeat (first | apply Kd.R_alloc | apply Kd.R_drewN | apply Kd.R_drew)); exact Kd.R_mono (Kd.R_far (p := ⟨gb181, 1, none⟩) (Kd.R_far (p := ⟨gb181, 0, none⟩) (Kd.R_types HO_3.out BK181.out (by decide)) (fun _ hk => hk.2) (.int .i64 ((rd_T42 t168 x13_2).f0))) (fun _ hk => hk.2) (.int .i64 ((rd_T42 t168 x13_2).f1))) (fun _ hk => trivial)⟩, ⟨by (with_reducible repeat (first | apply Kd.R_alloc | apply Kd.R_drewN | apply Kd.R_drew)); exact Kd.R_mono (Kd.R_far (p := ⟨gb181, 1, none⟩) (Kd.R_far (p := ⟨gb181, 0, none⟩) (Kd.R_mono HO_7.out (fun k_ hk => (⟨hk, hk.2⟩ : _ ∧ k_ ≠ gb181))) (fun _ hk => hk.2) (.int .i64 ((rd_T42 t168 x13_2).f0))) (fun _ hk => hk.2) (.int .i64 ((rd_T42 t168 x13_2).f1))) (fun _ hk => hk.1.2)⟩, ⟨by (with_reducible repeat (first | refine blk_drewN ?_ _ | refine blk_drew ?_ | refine blk_alloc ?_ _)); refine blk_put (cs := #[.int .i64 ((rd_T42 t168 x13_2).f0), .int .i64 0]) ?_ 1 _ rfl; (with_reducible repeat (first | refine blk_drewN ?_ _ | refine blk_drew ?_ | refine blk_alloc ?_ _)); refine blk_put (cs := #[.int .i64 0, .int .i64 0]) ?_ 0 _ rfl; (with_reducible repeat (first | refine blk_drewN ?_ _ | refine blk_drew ?_ | refine blk_alloc ?_ _)); exact BK181.out⟩, ⟨by repeat (first | (with_reducible first | exact HB.out | apply below_alloc | apply pw_below_drewN | apply below_drew1 | refine below_set ?_ GE181.out) | exact HB.out)⟩⟩
                        · rw [if_neg c32] at H
                          have c32b0 : decide ((t162.length : Int) < ((rd_T42 t168 x13_2).f1)) = false := decide_eq_false c32
                          clear c32
                          by_cases c34 : 0 ≤ ((rd_T42 t168 x13_2).f0)
                          · rw [if_pos c34] at H
                            have c34b0 : decide (0 ≤ ((rd_T42 t168 x13_2).f0)) = true := decide_eq_true c34
                            clear c34
                            by_cases c35 : ((rd_T42 t168 x13_2).f0) < (t162.length : Int)
                            · rw [if_pos c35] at H
                              have c35b0 : decide (((rd_T42 t168 x13_2).f0) < (t162.length : Int)) = true := decide_eq_true c35
                              clear c35
                              by_cases c36 : ((fGt .f64 (rdOf (0 : Nat) t162 ((rd_T42 t168 x13_2).f0)) t163) = true)
                              · rw [if_pos c36] at H
                                have c36b0 : (fGt .f64 (rdOf (0 : Nat) t162 ((rd_T42 t168 x13_2).f0)) t163) = true := c36
                                clear c36
                                by_cases c37 : x13_2 > 0
                                · rw [if_pos c37] at H
                                  have c37b0 : decide (0 < x13_2) = true := decide_eq_true c37
                                  clear c37
                                  obtain ⟨ji38, hji38⟩ : ∃ j_ : Int, (wrap64 (x13_2 - 1)) = j_ := ⟨_, rfl⟩
                                  replace H : (if 0 ≤ (ji38) then (if (ji38) < (t168.length : Int) then (laws_FnAlarms.j2 k2 t162 t163 t164 t168 x13_2 (decide (((rd_T42 t168 x13_2).f0) ≤ ((rd_T42 t168 (ji38)).f1))) ((rd_T42 t168 x13_2).f0) ((rd_T42 t168 x13_2).f1)) else (none)) else (none)) = some r := by first | (rw [hji38] at H; exact H) | (simp only [hji38] at H ⊢; exact H)
                                  have hji38w : (IntKind.i64.wrap (x13_2 - 1)) = ji38 := (i64_w _).trans hji38
                                  by_cases c39 : 0 ≤ (ji38)
                                  · rw [if_pos c39] at H
                                    have c39b0 : decide (0 ≤ (ji38)) = true := decide_eq_true c39
                                    clear c39
                                    by_cases c40 : (ji38) < (t168.length : Int)
                                    · rw [if_pos c40] at H
                                      have c40b0 : decide ((ji38) < (t168.length : Int)) = true := decide_eq_true c40
                                      clear c40
                                      have H' := Aside0.mk H
                                      clear H
                                      have hcz41_0 : w26.cell? ⟨gb181, 0, none⟩ = some (.int .i64 0) := (blk_cell BK181.out 0).trans rfl
                                      have hcz41_1 : w26.cell? ⟨gb181, 1, none⟩ = some (.int .i64 0) := (blk_cell BK181.out 1).trans rfl
                                      have hfz41_0 := blk_frozen BK181.out 0
                                      have hfz41_1 := blk_frozen BK181.out 1
                                      have p182 : 0 ≤ (((rd_T42 t168 x13_2).f0) : Int) := of_decide_eq_true (by first | (with_reducible assumption) | assumption)
                                      have q182 : ((rd_T42 t168 x13_2).f0) < (t162.length : Int) := of_decide_eq_true (by first | (with_reducible assumption) | assumption)
                                      obtain ⟨ad182, e182, hx182_0⟩ := Opens.at_flt (Kd.R_reads' HO_3.out).2.2 ((rd_T42 t168 x13_2).f0) p182 q182
                                      cases e182
                                      have hn182_0 : ad182.block ≠ gb181 := Kd.own_blk (Kd.R_ne HO_3.out BK181.out (by decide))
                                      have hn182_1 : ad182.block ≠ gb181 := Kd.own_blk (Kd.R_ne HO_3.out BK181.out (by decide))
                                      replace hx182_0 := (cell_far (p := ⟨gb181, 0, none⟩) (by first | (rw [add_block]; exact hn182_0) | (show (Addr.add _ _).block ≠ _; rw [add_block]; exact hn182_0) | exact hn182_0) (.int .i64 ((rd_T42 t168 x13_2).f0))).trans hx182_0
                                      replace hx182_0 := (cell_far (p := ⟨gb181, 1, none⟩) (by first | (rw [add_block]; exact hn182_1) | (show (Addr.add _ _).block ≠ _; rw [add_block]; exact hn182_1) | exact hn182_1) (.int .i64 ((rd_T42 t168 x13_2).f1))).trans hx182_0
                                      (try have hy182_0 := fun (n_ : Nat) => (show ((((w26.drewN n_).setCell ⟨gb181, 0, none⟩ (.int .i64 ((rd_T42 t168 x13_2).f0))).setCell ⟨gb181, 1, none⟩ (.int .i64 ((rd_T42 t168 x13_2).f1)))).cell? _ = some _ from hx182_0))
                                      clear hn182_0
                                      clear hn182_1
                                      replace p182 := eq_true p182
                                      replace q182 := eq_true q182
                                      have p183 : 0 ≤ ((ji38) : Int) := of_decide_eq_true (by first | (with_reducible assumption) | assumption)
                                      have q183 : (ji38) < (t168.length : Int) := of_decide_eq_true (by first | (with_reducible assumption) | assumption)
                                      obtain ⟨ad183, e183, hx183_0, hx183_1⟩ := at_T42 (Kd.R_reads' HO_7.out).2.2 (ji38) p183 q183
                                      obtain rfl : ad180 = ad183 := (by injection e183)
                                      have hn183_0 : ad180.block ≠ gb181 := Kd.own_blk (Kd.R_away HO_7.out (fun _ hk => hk.2))
                                      have hn183_1 : ad180.block ≠ gb181 := Kd.own_blk (Kd.R_away HO_7.out (fun _ hk => hk.2))
                                      replace hx183_0 := (cell_far (p := ⟨gb181, 0, none⟩) (by first | (rw [add_block]; exact hn183_0) | (show (Addr.add _ _).block ≠ _; rw [add_block]; exact hn183_0) | exact hn183_0) (.int .i64 ((rd_T42 t168 x13_2).f0))).trans hx183_0
                                      replace hx183_1 := (cell_far (p := ⟨gb181, 0, none⟩) (by first | (rw [add_block]; exact hn183_0) | (show (Addr.add _ _).block ≠ _; rw [add_block]; exact hn183_0) | exact hn183_0) (.int .i64 ((rd_T42 t168 x13_2).f0))).trans hx183_1
                                      replace hx183_0 := (cell_far (p := ⟨gb181, 1, none⟩) (by first | (rw [add_block]; exact hn183_1) | (show (Addr.add _ _).block ≠ _; rw [add_block]; exact hn183_1) | exact hn183_1) (.int .i64 ((rd_T42 t168 x13_2).f1))).trans hx183_0
                                      replace hx183_1 := (cell_far (p := ⟨gb181, 1, none⟩) (by first | (rw [add_block]; exact hn183_1) | (show (Addr.add _ _).block ≠ _; rw [add_block]; exact hn183_1) | exact hn183_1) (.int .i64 ((rd_T42 t168 x13_2).f1))).trans hx183_1
                                      (try have hy183_0 := fun (n_ : Nat) => (show ((((w26.drewN n_).setCell ⟨gb181, 0, none⟩ (.int .i64 ((rd_T42 t168 x13_2).f0))).setCell ⟨gb181, 1, none⟩ (.int .i64 ((rd_T42 t168 x13_2).f1)))).cell? _ = some _ from hx183_0))
                                      (try have hy183_1 := fun (n_ : Nat) => (show ((((w26.drewN n_).setCell ⟨gb181, 0, none⟩ (.int .i64 ((rd_T42 t168 x13_2).f0))).setCell ⟨gb181, 1, none⟩ (.int .i64 ((rd_T42 t168 x13_2).f1)))).cell? _ = some _ from hx183_1))
                                      clear hn183_0
                                      clear hn183_1
                                      replace p183 := eq_true p183
                                      replace q183 := eq_true q183
                                      go_wp2
                                      repeat (go_quiet (fail); try go_wp2)
                                      go_meet
                                      case rel => exact ⟨_, (decide (((rd_T42 t168 x13_2).f0) ≤ ((rd_T42 t168 (ji38)).f1))), (by first | rfl | (simp; done) | (simp only [← hji38] <;> (first | rfl | simp)) | (simp [*]; done)), H', ⟨by have := HJ6.out; have := HK2.out; first | omega | exact Nat.le_refl _⟩, ⟨by (with_reducible repeat (first | apply Kd.R_alloc | apply Kd.R_drewN | apply Kd.R_drew)); exact Kd.R_mono (Kd.R_far (p := ⟨gb181, 1, none⟩) (Kd.R_far (p := ⟨gb181, 0, none⟩) (Kd.R_types HO_3.out BK181.out (by decide)) (fun _ hk => hk.2) (.int .i64 ((rd_T42 t168 x13_2).f0))) (fun _ hk => hk.2) (.int .i64 ((rd_T42 t168 x13_2).f1))) (fun _ hk => trivial)⟩, ⟨by (with_reducible repeat (first | apply Kd.R_alloc | apply Kd.R_drewN | apply Kd.R_drew)); exact Kd.R_mono (Kd.R_far (p := ⟨gb181, 1, none⟩) (Kd.R_far (p := ⟨gb181, 0, none⟩) (Kd.R_mono HO_7.out (fun k_ hk => (⟨hk, hk.2⟩ : _ ∧ k_ ≠ gb181))) (fun _ hk => hk.2) (.int .i64 ((rd_T42 t168 x13_2).f0))) (fun _ hk => hk.2) (.int .i64 ((rd_T42 t168 x13_2).f1))) (fun _ hk => hk.1.2)⟩, ⟨by (with_reducible repeat (first | refine blk_drewN ?_ _ | refine blk_drew ?_ | refine blk_alloc ?_ _)); refine blk_put (cs := #[.int .i64 ((rd_T42 t168 x13_2).f0), .int .i64 0]) ?_ 1 _ rfl; (with_reducible repeat (first | refine blk_drewN ?_ _ | refine blk_drew ?_ | refine blk_alloc ?_ _)); refine blk_put (cs := #[.int .i64 0, .int .i64 0]) ?_ 0 _ rfl; (with_reducible repeat (first | refine blk_drewN ?_ _ | refine blk_drew ?_ | refine blk_alloc ?_ _)); exact BK181.out⟩, ⟨by repeat (first | (with_reducible first | exact HB.out | apply below_alloc | apply pw_below_drewN | apply below_drew1 | refine below_set ?_ GE181.out) | exact HB.out)⟩⟩
                                    · rw [if_neg c40] at H
                                      exact absurd H (by simp)
                                  · rw [if_neg c39] at H
                                    exact absurd H (by simp)
                                · rw [if_neg c37] at H
                                  have c37b0 : decide (0 < x13_2) = false := decide_eq_false c37
                                  clear c37
                                  have H' := Aside0.mk H
                                  clear H
                                  have hcz42_0 : w26.cell? ⟨gb181, 0, none⟩ = some (.int .i64 0) := (blk_cell BK181.out 0).trans rfl
                                  have hcz42_1 : w26.cell? ⟨gb181, 1, none⟩ = some (.int .i64 0) := (blk_cell BK181.out 1).trans rfl
                                  have hfz42_0 := blk_frozen BK181.out 0
                                  have hfz42_1 := blk_frozen BK181.out 1
                                  have p182 : 0 ≤ (((rd_T42 t168 x13_2).f0) : Int) := of_decide_eq_true (by first | (with_reducible assumption) | assumption)
                                  have q182 : ((rd_T42 t168 x13_2).f0) < (t162.length : Int) := of_decide_eq_true (by first | (with_reducible assumption) | assumption)
                                  obtain ⟨ad182, e182, hx182_0⟩ := Opens.at_flt (Kd.R_reads' HO_3.out).2.2 ((rd_T42 t168 x13_2).f0) p182 q182
                                  cases e182
                                  have hn182_0 : ad182.block ≠ gb181 := Kd.own_blk (Kd.R_ne HO_3.out BK181.out (by decide))
                                  have hn182_1 : ad182.block ≠ gb181 := Kd.own_blk (Kd.R_ne HO_3.out BK181.out (by decide))
                                  replace hx182_0 := (cell_far (p := ⟨gb181, 0, none⟩) (by first | (rw [add_block]; exact hn182_0) | (show (Addr.add _ _).block ≠ _; rw [add_block]; exact hn182_0) | exact hn182_0) (.int .i64 ((rd_T42 t168 x13_2).f0))).trans hx182_0
                                  replace hx182_0 := (cell_far (p := ⟨gb181, 1, none⟩) (by first | (rw [add_block]; exact hn182_1) | (show (Addr.add _ _).block ≠ _; rw [add_block]; exact hn182_1) | exact hn182_1) (.int .i64 ((rd_T42 t168 x13_2).f1))).trans hx182_0
                                  (try have hy182_0 := fun (n_ : Nat) => (show ((((w26.drewN n_).setCell ⟨gb181, 0, none⟩ (.int .i64 ((rd_T42 t168 x13_2).f0))).setCell ⟨gb181, 1, none⟩ (.int .i64 ((rd_T42 t168 x13_2).f1)))).cell? _ = some _ from hx182_0))
                                  clear hn182_0
                                  clear hn182_1
                                  replace p182 := eq_true p182
                                  replace q182 := eq_true q182
                                  go_wp2
                                  repeat (go_quiet (fail); try go_wp2)
                                  go_meet
                                  case rel => exact ⟨_, (false), (by first | rfl | (simp; done) | (simp [*]; done)), H', ⟨by have := HJ6.out; have := HK2.out; first | omega | exact Nat.le_refl _⟩, ⟨by (with_reducible repeat (first | apply Kd.R_alloc | apply Kd.R_drewN | apply Kd.R_drew)); exact Kd.R_mono (Kd.R_far (p := ⟨gb181, 1, none⟩) (Kd.R_far (p := ⟨gb181, 0, none⟩) (Kd.R_types HO_3.out BK181.out (by decide)) (fun _ hk => hk.2) (.int .i64 ((rd_T42 t168 x13_2).f0))) (fun _ hk => hk.2) (.int .i64 ((rd_T42 t168 x13_2).f1))) (fun _ hk => trivial)⟩, ⟨by (with_reducible repeat (first | apply Kd.R_alloc | apply Kd.R_drewN | apply Kd.R_drew)); exact Kd.R_mono (Kd.R_far (p := ⟨gb181, 1, none⟩) (Kd.R_far (p := ⟨gb181, 0, none⟩) (Kd.R_mono HO_7.out (fun k_ hk => (⟨hk, hk.2⟩ : _ ∧ k_ ≠ gb181))) (fun _ hk => hk.2) (.int .i64 ((rd_T42 t168 x13_2).f0))) (fun _ hk => hk.2) (.int .i64 ((rd_T42 t168 x13_2).f1))) (fun _ hk => hk.1.2)⟩, ⟨by (with_reducible repeat (first | refine blk_drewN ?_ _ | refine blk_drew ?_ | refine blk_alloc ?_ _)); refine blk_put (cs := #[.int .i64 ((rd_T42 t168 x13_2).f0), .int .i64 0]) ?_ 1 _ rfl; (with_reducible repeat (first | refine blk_drewN ?_ _ | refine blk_drew ?_ | refine blk_alloc ?_ _)); refine blk_put (cs := #[.int .i64 0, .int .i64 0]) ?_ 0 _ rfl; (with_reducible repeat (first | refine blk_drewN ?_ _ | refine blk_drew ?_ | refine blk_alloc ?_ _)); exact BK181.out⟩, ⟨by repeat (first | (with_reducible first | exact HB.out | apply below_alloc | apply pw_below_drewN | apply below_drew1 | refine below_set ?_ GE181.out) | exact HB.out)⟩⟩
                              · rw [if_neg c36] at H
                                have c36b0 : (fGt .f64 (rdOf (0 : Nat) t162 ((rd_T42 t168 x13_2).f0)) t163) = false := by simpa using c36
                                clear c36
                                have H' := Aside0.mk H
                                clear H
                                have hcz43_0 : w26.cell? ⟨gb181, 0, none⟩ = some (.int .i64 0) := (blk_cell BK181.out 0).trans rfl
                                have hcz43_1 : w26.cell? ⟨gb181, 1, none⟩ = some (.int .i64 0) := (blk_cell BK181.out 1).trans rfl
                                have hfz43_0 := blk_frozen BK181.out 0
                                have hfz43_1 := blk_frozen BK181.out 1
                                have p182 : 0 ≤ (((rd_T42 t168 x13_2).f0) : Int) := of_decide_eq_true (by first | (with_reducible assumption) | assumption)
                                have q182 : ((rd_T42 t168 x13_2).f0) < (t162.length : Int) := of_decide_eq_true (by first | (with_reducible assumption) | assumption)
                                obtain ⟨ad182, e182, hx182_0⟩ := Opens.at_flt (Kd.R_reads' HO_3.out).2.2 ((rd_T42 t168 x13_2).f0) p182 q182
                                cases e182
                                have hn182_0 : ad182.block ≠ gb181 := Kd.own_blk (Kd.R_ne HO_3.out BK181.out (by decide))
                                have hn182_1 : ad182.block ≠ gb181 := Kd.own_blk (Kd.R_ne HO_3.out BK181.out (by decide))
                                replace hx182_0 := (cell_far (p := ⟨gb181, 0, none⟩) (by first | (rw [add_block]; exact hn182_0) | (show (Addr.add _ _).block ≠ _; rw [add_block]; exact hn182_0) | exact hn182_0) (.int .i64 ((rd_T42 t168 x13_2).f0))).trans hx182_0
                                replace hx182_0 := (cell_far (p := ⟨gb181, 1, none⟩) (by first | (rw [add_block]; exact hn182_1) | (show (Addr.add _ _).block ≠ _; rw [add_block]; exact hn182_1) | exact hn182_1) (.int .i64 ((rd_T42 t168 x13_2).f1))).trans hx182_0
                                (try have hy182_0 := fun (n_ : Nat) => (show ((((w26.drewN n_).setCell ⟨gb181, 0, none⟩ (.int .i64 ((rd_T42 t168 x13_2).f0))).setCell ⟨gb181, 1, none⟩ (.int .i64 ((rd_T42 t168 x13_2).f1)))).cell? _ = some _ from hx182_0))
                                clear hn182_0
                                clear hn182_1
                                replace p182 := eq_true p182
                                replace q182 := eq_true q182
                                go_wp2
                                repeat (go_quiet (fail); try go_wp2)
                                go_meet
                                case rel => exact ⟨_, (true), (by first | rfl | (simp; done) | (simp [*]; done)), H', ⟨by have := HJ6.out; have := HK2.out; first | omega | exact Nat.le_refl _⟩, ⟨by (with_reducible repeat (first | apply Kd.R_alloc | apply Kd.R_drewN | apply Kd.R_drew)); exact Kd.R_mono (Kd.R_far (p := ⟨gb181, 1, none⟩) (Kd.R_far (p := ⟨gb181, 0, none⟩) (Kd.R_types HO_3.out BK181.out (by decide)) (fun _ hk => hk.2) (.int .i64 ((rd_T42 t168 x13_2).f0))) (fun _ hk => hk.2) (.int .i64 ((rd_T42 t168 x13_2).f1))) (fun _ hk => trivial)⟩, ⟨by (with_reducible repeat (first | apply Kd.R_alloc | apply Kd.R_drewN | apply Kd.R_drew)); exact Kd.R_mono (Kd.R_far (p := ⟨gb181, 1, none⟩) (Kd.R_far (p := ⟨gb181, 0, none⟩) (Kd.R_mono HO_7.out (fun k_ hk => (⟨hk, hk.2⟩ : _ ∧ k_ ≠ gb181))) (fun _ hk => hk.2) (.int .i64 ((rd_T42 t168 x13_2).f0))) (fun _ hk => hk.2) (.int .i64 ((rd_T42 t168 x13_2).f1))) (fun _ hk => hk.1.2)⟩, ⟨by (with_reducible repeat (first | refine blk_drewN ?_ _ | refine blk_drew ?_ | refine blk_alloc ?_ _)); refine blk_put (cs := #[.int .i64 ((rd_T42 t168 x13_2).f0), .int .i64 0]) ?_ 1 _ rfl; (with_reducible repeat (first | refine blk_drewN ?_ _ | refine blk_drew ?_ | refine blk_alloc ?_ _)); refine blk_put (cs := #[.int .i64 0, .int .i64 0]) ?_ 0 _ rfl; (with_reducible repeat (first | refine blk_drewN ?_ _ | refine blk_drew ?_ | refine blk_alloc ?_ _)); exact BK181.out⟩, ⟨by repeat (first | (with_reducible first | exact HB.out | apply below_alloc | apply pw_below_drewN | apply below_drew1 | refine below_set ?_ GE181.out) | exact HB.out)⟩⟩
                            · rw [if_neg c35] at H
                              exact absurd H (by simp)
                          · rw [if_neg c34] at H
                            exact absurd H (by simp)
                  case rest =>
                    clear HC24
                    try clear c1
                    try clear p1
                    try clear q1
                    try clear hx1
                    try clear c2
                    try clear c2b0
                    try clear c2b1
                    try clear p2
                    try clear c3
                    try clear c4
                    try clear p6
                    try clear c13
                    try clear c13b0
                    try clear c13b1
                    try clear c14
                    try clear c14b0
                    try clear c14b1
                    try clear c15
                    try clear c15b0
                    try clear c15b1
                    try clear p18
                    try clear q18
                    try clear hx18
                    try clear c21
                    try clear c22
                    try clear c22b0
                    try clear c23
                    try clear c23b0
                    try clear c28
                    try clear c28b0
                    try clear c30
                    try clear c30b0
                    try clear c32
                    try clear c32b0
                    try clear c34
                    try clear c34b0
                    try clear c35
                    try clear c35b0
                    try clear c36
                    try clear c36b0
                    try clear c37
                    try clear c37b0
                    try clear c39
                    try clear c39b0
                    try clear c40
                    try clear c40b0
                    try clear hcz27_0
                    try clear hcz27_1
                    try clear hcz29_0
                    try clear hcz29_1
                    try clear hcz31_0
                    try clear hcz31_1
                    try clear hcz33_0
                    try clear hcz33_1
                    try clear hcz41_0
                    try clear hcz41_1
                    try clear hcz42_0
                    try clear hcz42_1
                    try clear hcz43_0
                    try clear hcz43_1
                    try clear hfz27_0
                    try clear hfz27_1
                    try clear hfz29_0
                    try clear hfz29_1
                    try clear hfz31_0
                    try clear hfz31_1
                    try clear hfz33_0
                    try clear hfz33_1
                    try clear hfz41_0
                    try clear hfz41_1
                    try clear hfz42_0
                    try clear hfz42_1
                    try clear hfz43_0
                    try clear hfz43_1
                    try clear hx180_0
                    try clear hx180_1
                    try clear hx182_0
                    try clear hx183_0
                    try clear hx183_1
                    try clear p180
                    try clear p182
                    try clear p183
                    try clear p2
                    try clear p6
                    try clear q180
                    try clear q182
                    try clear q183
                    obtain ⟨kq, x122_23, rfl, HA, HJ23, HO_3, HO_7, BK181, HB⟩ := hcut
                    cases kq with
                    | zero => exact absurd HA.out (by simp [laws_FnAlarms.j2])
                    | succ kj23 =>
                      have H := HA.out
                      clear HA
                      simp only [laws_FnAlarms.j2] at H
                      by_cases c44 : x122_23 = true
                      · subst c44
                        have H1 : (some false) = some r := by rw [if_pos rfl] at H; exact H
                        clear H
                        have H := H1
                        clear H1
                        obtain rfl := Option.some.inj H
                        go_wp2
                        repeat (go_quiet (fail); try go_wp2)
                        go_ret
                        exact ⟨by first | rfl | (simp [errW_none, errW_some] <;> rfl) | (simp [*, errW_none, errW_some] <;> rfl), by repeat (first | (with_reducible first | exact HB.out | apply below_alloc | apply pw_below_drewN | apply below_drew1 | refine below_set ?_ GE181.out) | exact HB.out)⟩
                      · replace c44 := Bool.eq_false_iff.mpr c44
                        subst c44
                        have H1 : (if ((rd_T42 t168 x13_2).f1) < (t162.length : Int) then (if 0 ≤ ((rd_T42 t168 x13_2).f1) then (laws_FnAlarms.j3 kj23 t162 t163 t164 t168 x13_2 (!(fLe .f64 (rdOf (0 : Nat) t162 ((rd_T42 t168 x13_2).f1)) t164)) ((rd_T42 t168 x13_2).f0) ((rd_T42 t168 x13_2).f1)) else (none)) else (laws_FnAlarms.j3 kj23 t162 t163 t164 t168 x13_2 false ((rd_T42 t168 x13_2).f0) ((rd_T42 t168 x13_2).f1))) = some r := by rw [if_neg (show ¬ (false = true) by decide)] at H; exact H
                        clear H
                        have H := H1
                        clear H1
                        have HC45 := Aside0.mk H
                        clear H
                        go_upto_region 15 with (fail)
                        repeat (go_quiet (fail); go_upto_region 15 with (fail))
                        go_cut [137] (fun v137 wc => ∃ (kq : Nat) (x137_44 : Bool), v137 = .bool x137_44 ∧ Aside0 (laws_FnAlarms.j3 kq t162 t163 t164 t168 x13_2 x137_44 ((rd_T42 t168 x13_2).f0) ((rd_T42 t168 x13_2).f1) = some r) ∧ Aside0 (kq ≤ kj23) ∧ Aside0 (Kd.R (Opens.flt .f64) 35 wc w.heap.size (fun _ => True) (.slice Ao9 t162.length co9) t162) ∧ Aside0 (Kd.R k42 42 wc w.heap.size (fun k_ => k_ ≠ gb181) (.slice (some ad180) t168.length co25) t168) ∧ Aside0 (wc.heap[gb181]? = some (.cells #[.int .i64 ((rd_T42 t168 x13_2).f0), .int .i64 ((rd_T42 t168 x13_2).f1)] 42 (0, 0))) ∧ Aside0 (Below w.heap.size w wc))
                        case first =>
                          have H := HC45.out
                          clear HC45
                          by_cases c46 : ((rd_T42 t168 x13_2).f1) < (t162.length : Int)
                          · rw [if_pos c46] at H
                            have c46b0 : decide (((rd_T42 t168 x13_2).f1) < (t162.length : Int)) = true := decide_eq_true c46
                            clear c46
                            (first | rw [c46b0] | (simp only [i64_w, i32_w]; rw [c46b0]) | skip)
                            by_cases c47 : 0 ≤ ((rd_T42 t168 x13_2).f1)
                            · rw [if_pos c47] at H
                              have c47b0 : decide (0 ≤ ((rd_T42 t168 x13_2).f1)) = true := decide_eq_true c47
                              clear c47
                              have H' := Aside0.mk H
                              clear H
                              have hcz48_0 : wc.cell? ⟨gb181, 0, none⟩ = some (.int .i64 ((rd_T42 t168 x13_2).f0)) := (blk_cell BK181.out 0).trans rfl
                              have hcz48_1 : wc.cell? ⟨gb181, 1, none⟩ = some (.int .i64 ((rd_T42 t168 x13_2).f1)) := (blk_cell BK181.out 1).trans rfl
                              have hfz48_0 := blk_frozen BK181.out 0
                              have hfz48_1 := blk_frozen BK181.out 1
                              have p184 : 0 ≤ (((rd_T42 t168 x13_2).f1) : Int) := of_decide_eq_true (by first | (with_reducible assumption) | assumption)
                              have q184 : ((rd_T42 t168 x13_2).f1) < (t162.length : Int) := of_decide_eq_true (by first | (with_reducible assumption) | assumption)
                              obtain ⟨ad184, e184, hx184_0⟩ := Opens.at_flt (Kd.R_reads' HO_3.out).2.2 ((rd_T42 t168 x13_2).f1) p184 q184
                              cases e184
                              replace p184 := eq_true p184
                              replace q184 := eq_true q184
                              go_wp2
                              repeat (go_quiet (fail); try go_wp2)
                              go_meet
                              case rel => exact ⟨_, (!(fLe .f64 (rdOf (0 : Nat) t162 ((rd_T42 t168 x13_2).f1)) t164)), (by first | rfl | (simp; done) | (simp [*]; done)), H', ⟨by have := HJ6.out; have := HK2.out; have := HJ23.out; first | omega | exact Nat.le_refl _⟩, ⟨by (with_reducible repeat (first | apply Kd.R_alloc | apply Kd.R_drewN | apply Kd.R_drew)); exact HO_3.out⟩, ⟨by (with_reducible repeat (first | apply Kd.R_alloc | apply Kd.R_drewN | apply Kd.R_drew)); exact HO_7.out⟩, ⟨by (with_reducible repeat (first | refine blk_drewN ?_ _ | refine blk_drew ?_ | refine blk_alloc ?_ _)); exact BK181.out⟩, ⟨by repeat (first | (with_reducible first | exact HB.out | apply below_alloc | apply pw_below_drewN | apply below_drew1 | refine below_set ?_ GE181.out) | exact HB.out)⟩⟩
                            · rw [if_neg c47] at H
                              exact absurd H (by simp)
                          · rw [if_neg c46] at H
                            have c46b0 : decide (((rd_T42 t168 x13_2).f1) < (t162.length : Int)) = false := decide_eq_false c46
                            clear c46
                            (first | rw [c46b0] | (simp only [i64_w, i32_w]; rw [c46b0]) | skip)
                            have H' := Aside0.mk H
                            clear H
                            have hcz49_0 : wc.cell? ⟨gb181, 0, none⟩ = some (.int .i64 ((rd_T42 t168 x13_2).f0)) := (blk_cell BK181.out 0).trans rfl
                            have hcz49_1 : wc.cell? ⟨gb181, 1, none⟩ = some (.int .i64 ((rd_T42 t168 x13_2).f1)) := (blk_cell BK181.out 1).trans rfl
                            have hfz49_0 := blk_frozen BK181.out 0
                            have hfz49_1 := blk_frozen BK181.out 1
                            go_wp2
                            repeat (go_quiet (fail); try go_wp2)
                            go_meet
                            case rel => exact ⟨_, (false), (by first | rfl | (simp; done) | (simp [*]; done)), H', ⟨by have := HJ6.out; have := HK2.out; have := HJ23.out; first | omega | exact Nat.le_refl _⟩, ⟨by (with_reducible repeat (first | apply Kd.R_alloc | apply Kd.R_drewN | apply Kd.R_drew)); exact HO_3.out⟩, ⟨by (with_reducible repeat (first | apply Kd.R_alloc | apply Kd.R_drewN | apply Kd.R_drew)); exact HO_7.out⟩, ⟨by (with_reducible repeat (first | refine blk_drewN ?_ _ | refine blk_drew ?_ | refine blk_alloc ?_ _)); exact BK181.out⟩, ⟨by repeat (first | (with_reducible first | exact HB.out | apply below_alloc | apply pw_below_drewN | apply below_drew1 | refine below_set ?_ GE181.out) | exact HB.out)⟩⟩
                        case rest =>
                          clear HC45
                          try clear c1
                          try clear p1
                          try clear q1
                          try clear hx1
                          try clear c2
                          try clear c2b0
                          try clear c2b1
                          try clear p2
                          try clear c3
                          try clear c4
                          try clear p6
                          try clear c13
                          try clear c13b0
                          try clear c13b1
                          try clear c14
                          try clear c14b0
                          try clear c14b1
                          try clear c15
                          try clear c15b0
                          try clear c15b1
                          try clear p18
                          try clear q18
                          try clear hx18
                          try clear c21
                          try clear c22
                          try clear c22b0
                          try clear c23
                          try clear c23b0
                          try clear c28
                          try clear c28b0
                          try clear c30
                          try clear c30b0
                          try clear c32
                          try clear c32b0
                          try clear c34
                          try clear c34b0
                          try clear c35
                          try clear c35b0
                          try clear c36
                          try clear c36b0
                          try clear c37
                          try clear c37b0
                          try clear c39
                          try clear c39b0
                          try clear c40
                          try clear c40b0
                          try clear c44
                          try clear c46
                          try clear c46b0
                          try clear c47
                          try clear c47b0
                          try clear hcz27_0
                          try clear hcz27_1
                          try clear hcz29_0
                          try clear hcz29_1
                          try clear hcz31_0
                          try clear hcz31_1
                          try clear hcz33_0
                          try clear hcz33_1
                          try clear hcz41_0
                          try clear hcz41_1
                          try clear hcz42_0
                          try clear hcz42_1
                          try clear hcz43_0
                          try clear hcz43_1
                          try clear hcz48_0
                          try clear hcz48_1
                          try clear hcz49_0
                          try clear hcz49_1
                          try clear hfz27_0
                          try clear hfz27_1
                          try clear hfz29_0
                          try clear hfz29_1
                          try clear hfz31_0
                          try clear hfz31_1
                          try clear hfz33_0
                          try clear hfz33_1
                          try clear hfz41_0
                          try clear hfz41_1
                          try clear hfz42_0
                          try clear hfz42_1
                          try clear hfz43_0
                          try clear hfz43_1
                          try clear hfz48_0
                          try clear hfz48_1
                          try clear hfz49_0
                          try clear hfz49_1
                          try clear hx180_0
                          try clear hx180_1
                          try clear hx182_0
                          try clear hx183_0
                          try clear hx183_1
                          try clear hx184_0
                          try clear p1
                          try clear p18
                          try clear p180
                          try clear p182
                          try clear p183
                          try clear p184
                          try clear p2
                          try clear p6
                          try clear q1
                          try clear q18
                          try clear q180
                          try clear q182
                          try clear q183
                          try clear q184
                          obtain ⟨kq, x137_44, rfl, HA, HJ44, HO_3, HO_7, BK181, HB⟩ := hcut
                          cases kq with
                          | zero => exact absurd HA.out (by simp [laws_FnAlarms.j3])
                          | succ kj44 =>
                            have H := HA.out
                            clear HA
                            simp only [laws_FnAlarms.j3] at H
                            by_cases c50 : x137_44 = true
                            · subst c50
                              have H1 : (some false) = some r := by rw [if_pos rfl] at H; exact H
                              clear H
                              have H := H1
                              clear H1
                              obtain rfl := Option.some.inj H
                              go_wp2
                              repeat (go_quiet (fail); try go_wp2)
                              go_ret
                              exact ⟨by first | rfl | (simp [errW_none, errW_some] <;> rfl) | (simp [*, errW_none, errW_some] <;> rfl), by repeat (first | (with_reducible first | exact HB.out | apply below_alloc | apply pw_below_drewN | apply below_drew1 | refine below_set ?_ GE181.out) | exact HB.out)⟩
                            · replace c50 := Bool.eq_false_iff.mpr c50
                              subst c50
                              have H1 : (laws_FnAlarms.l1 kj44 t162 t163 t164 t168 x13_2 ((rd_T42 t168 x13_2).f0) ((rd_T42 t168 x13_2).f0) ((rd_T42 t168 x13_2).f1)) = some r := by rw [if_neg (show ¬ (false = true) by decide)] at H; exact H
                              clear H
                              have H := H1
                              clear H1
                              have H' := Aside0.mk H
                              clear H
                              have hcz51_0 : wc.cell? ⟨gb181, 0, none⟩ = some (.int .i64 ((rd_T42 t168 x13_2).f0)) := (blk_cell BK181.out 0).trans rfl
                              have hcz51_1 : wc.cell? ⟨gb181, 1, none⟩ = some (.int .i64 ((rd_T42 t168 x13_2).f1)) := (blk_cell BK181.out 1).trans rfl
                              have hfz51_0 := blk_frozen BK181.out 0
                              have hfz51_1 := blk_frozen BK181.out 1
                              go_wp2
                              repeat (go_quiet (fail); try go_wp2)
                              go_loopg [15] kj44 (fun kq v15 w' => ∃ (x15_5 : Int), v15 = .int .i64 x15_5 ∧ Aside0 (laws_FnAlarms.l1 kq t162 t163 t164 t168 x13_2 x15_5 ((rd_T42 t168 x13_2).f0) ((rd_T42 t168 x13_2).f1) = some r) ∧ Aside0 (kq ≤ kj44) ∧ Aside0 (Kd.R (Opens.flt .f64) 35 w' w.heap.size (fun _ => True) (.slice Ao9 t162.length co9) t162) ∧ Aside0 (Kd.R k42 42 w' w.heap.size (fun k_ => k_ ≠ gb181) (.slice (some ad180) t168.length co25) t168) ∧ Aside0 (w'.heap[gb181]? = some (.cells #[.int .i64 ((rd_T42 t168 x13_2).f0), .int .i64 ((rd_T42 t168 x13_2).f1)] 42 (0, 0))) ∧ Aside0 (Below w.heap.size w w'))
                              case atStart => exact ⟨(((rd_T42 t168 x13_2).f0)), (by first | rfl | (simp; done) | (simp [*]; done)), H', ⟨Nat.le_refl _⟩, ⟨by (with_reducible repeat (first | apply Kd.R_alloc | apply Kd.R_drewN | apply Kd.R_drew)); exact HO_3.out⟩, ⟨by (with_reducible repeat (first | apply Kd.R_alloc | apply Kd.R_drewN | apply Kd.R_drew)); exact HO_7.out⟩, ⟨by (with_reducible repeat (first | refine blk_drewN ?_ _ | refine blk_drew ?_ | refine blk_alloc ?_ _)); exact BK181.out⟩, ⟨by repeat (first | (with_reducible first | exact HB.out | apply below_alloc | apply pw_below_drewN | apply below_drew1 | refine below_set ?_ GE181.out) | exact HB.out)⟩⟩
                              case round =>
                                clear H'
                                try clear c1
                                try clear p1
                                try clear q1
                                try clear hx1
                                try clear c2
                                try clear c2b0
                                try clear c2b1
                                try clear p2
                                try clear c3
                                try clear c4
                                try clear c5
                                try clear p6
                                try clear c13
                                try clear c13b0
                                try clear c13b1
                                try clear c14
                                try clear c14b0
                                try clear c14b1
                                try clear c15
                                try clear c15b0
                                try clear c15b1
                                try clear p18
                                try clear q18
                                try clear hx18
                                try clear c21
                                try clear c22
                                try clear c22b0
                                try clear c23
                                try clear c23b0
                                try clear c28
                                try clear c28b0
                                try clear c30
                                try clear c30b0
                                try clear c32
                                try clear c32b0
                                try clear c34
                                try clear c34b0
                                try clear c35
                                try clear c35b0
                                try clear c36
                                try clear c36b0
                                try clear c37
                                try clear c37b0
                                try clear c39
                                try clear c39b0
                                try clear c40
                                try clear c40b0
                                try clear c44
                                try clear c46
                                try clear c46b0
                                try clear c47
                                try clear c47b0
                                try clear c50
                                try clear hcz27_0
                                try clear hcz27_1
                                try clear hcz29_0
                                try clear hcz29_1
                                try clear hcz31_0
                                try clear hcz31_1
                                try clear hcz33_0
                                try clear hcz33_1
                                try clear hcz41_0
                                try clear hcz41_1
                                try clear hcz42_0
                                try clear hcz42_1
                                try clear hcz43_0
                                try clear hcz43_1
                                try clear hcz48_0
                                try clear hcz48_1
                                try clear hcz49_0
                                try clear hcz49_1
                                try clear hcz51_0
                                try clear hcz51_1
                                try clear hfz27_0
                                try clear hfz27_1
                                try clear hfz29_0
                                try clear hfz29_1
                                try clear hfz31_0
                                try clear hfz31_1
                                try clear hfz33_0
                                try clear hfz33_1
                                try clear hfz41_0
                                try clear hfz41_1
                                try clear hfz42_0
                                try clear hfz42_1
                                try clear hfz43_0
                                try clear hfz43_1
                                try clear hfz48_0
                                try clear hfz48_1
                                try clear hfz49_0
                                try clear hfz49_1
                                try clear hfz51_0
                                try clear hfz51_1
                                try clear hx180_0
                                try clear hx180_1
                                try clear hx182_0
                                try clear hx183_0
                                try clear hx183_1
                                try clear hx184_0
                                try clear p1
                                try clear p18
                                try clear p180
                                try clear p182
                                try clear p183
                                try clear p184
                                try clear p2
                                try clear p6
                                try clear q1
                                try clear q18
                                try clear q180
                                try clear q182
                                try clear q183
                                try clear q184
                                obtain ⟨x15_5, rfl, HA, HK5, HO_3, HO_7, BK181, HB⟩ := hrel
                                cases gk with
                                | zero => exact absurd HA.out (by simp [laws_FnAlarms.l1])
                                | succ k5 =>
                                  have H := HA.out
                                  clear HA
                                  simp only [laws_FnAlarms.l1] at H
                                  by_cases c52 : x15_5 < ((rd_T42 t168 x13_2).f1)
                                  · rw [if_pos c52] at H
                                    have c52b0 : decide (x15_5 < ((rd_T42 t168 x13_2).f1)) = true := decide_eq_true c52
                                    clear c52
                                    by_cases c53 : 0 ≤ x15_5
                                    · rw [if_pos c53] at H
                                      have c53b0 : decide (0 ≤ x15_5) = true := decide_eq_true c53
                                      clear c53
                                      by_cases c54 : x15_5 < (t162.length : Int)
                                      · rw [if_pos c54] at H
                                        have c54b0 : decide (x15_5 < (t162.length : Int)) = true := decide_eq_true c54
                                        clear c54
                                        by_cases c55 : (fLe .f64 (rdOf (0 : Nat) t162 x15_5) t164) = true
                                        · rw [if_pos c55] at H
                                          have c55b0 : (fLe .f64 (rdOf (0 : Nat) t162 x15_5) t164) = true := c55
                                          clear c55
                                          obtain rfl := Option.some.inj H
                                          have hcz56_0 : wr.cell? ⟨gb181, 0, none⟩ = some (.int .i64 ((rd_T42 t168 x13_2).f0)) := (blk_cell BK181.out 0).trans rfl
                                          have hcz56_1 : wr.cell? ⟨gb181, 1, none⟩ = some (.int .i64 ((rd_T42 t168 x13_2).f1)) := (blk_cell BK181.out 1).trans rfl
                                          have hfz56_0 := blk_frozen BK181.out 0
                                          have hfz56_1 := blk_frozen BK181.out 1
                                          have p185 : 0 ≤ (x15_5 : Int) := of_decide_eq_true (by first | (with_reducible assumption) | assumption)
                                          have q185 : x15_5 < (t162.length : Int) := of_decide_eq_true (by first | (with_reducible assumption) | assumption)
                                          obtain ⟨ad185, e185, hx185_0⟩ := Opens.at_flt (Kd.R_reads' HO_3.out).2.2 x15_5 p185 q185
                                          cases e185
                                          replace p185 := eq_true p185
                                          replace q185 := eq_true q185
                                          go_wp2
                                          repeat (go_quiet (fail); try go_wp2)
                                          go_ret
                                          exact ⟨by first | rfl | (simp [errW_none, errW_some] <;> rfl) | (simp [*, errW_none, errW_some] <;> rfl), by repeat (first | (with_reducible first | exact HB.out | apply below_alloc | apply pw_below_drewN | apply below_drew1 | refine below_set ?_ GE181.out) | exact HB.out)⟩
                                        · rw [if_neg c55] at H
                                          have c55b0 : (fLe .f64 (rdOf (0 : Nat) t162 x15_5) t164) = false := by simpa using c55
                                          clear c55
                                          have H' := Aside0.mk H
                                          clear H
                                          have hcz57_0 : wr.cell? ⟨gb181, 0, none⟩ = some (.int .i64 ((rd_T42 t168 x13_2).f0)) := (blk_cell BK181.out 0).trans rfl
                                          have hcz57_1 : wr.cell? ⟨gb181, 1, none⟩ = some (.int .i64 ((rd_T42 t168 x13_2).f1)) := (blk_cell BK181.out 1).trans rfl
                                          have hfz57_0 := blk_frozen BK181.out 0
                                          have hfz57_1 := blk_frozen BK181.out 1
                                          have p185 : 0 ≤ (x15_5 : Int) := of_decide_eq_true (by first | (with_reducible assumption) | assumption)
                                          have q185 : x15_5 < (t162.length : Int) := of_decide_eq_true (by first | (with_reducible assumption) | assumption)
                                          obtain ⟨ad185, e185, hx185_0⟩ := Opens.at_flt (Kd.R_reads' HO_3.out).2.2 x15_5 p185 q185
                                          cases e185
                                          replace p185 := eq_true p185
                                          replace q185 := eq_true q185
                                          go_wp2
                                          repeat (go_quiet (fail); try go_wp2)
                                          go_roundg k5
                                          case measure => have := HJ6.out; have := HK2.out; have := HJ23.out; have := HJ44.out; have := HK5.out; omega
                                          case rel => exact ⟨(wrap64 (x15_5 + 1)), (by first | rfl | (simp; done) | (simp [*]; done)), H', ⟨by have := HJ6.out; have := HK2.out; have := HJ23.out; have := HJ44.out; have := HK5.out; omega⟩, ⟨by (with_reducible repeat (first | apply Kd.R_alloc | apply Kd.R_drewN | apply Kd.R_drew)); exact HO_3.out⟩, ⟨by (with_reducible repeat (first | apply Kd.R_alloc | apply Kd.R_drewN | apply Kd.R_drew)); exact HO_7.out⟩, ⟨by (with_reducible repeat (first | refine blk_drewN ?_ _ | refine blk_drew ?_ | refine blk_alloc ?_ _)); exact BK181.out⟩, ⟨by repeat (first | (with_reducible first | exact HB.out | apply below_alloc | apply pw_below_drewN | apply below_drew1 | refine below_set ?_ GE181.out) | exact HB.out)⟩⟩
                                      · rw [if_neg c54] at H
                                        exact absurd H (by simp)
                                    · rw [if_neg c53] at H
                                      exact absurd H (by simp)
                                  · rw [if_neg c52] at H
                                    have c52b0 : decide (x15_5 < ((rd_T42 t168 x13_2).f1)) = false := decide_eq_false c52
                                    clear c52
                                    have H' := Aside0.mk H
                                    clear H
                                    have hcz58_0 : wr.cell? ⟨gb181, 0, none⟩ = some (.int .i64 ((rd_T42 t168 x13_2).f0)) := (blk_cell BK181.out 0).trans rfl
                                    have hcz58_1 : wr.cell? ⟨gb181, 1, none⟩ = some (.int .i64 ((rd_T42 t168 x13_2).f1)) := (blk_cell BK181.out 1).trans rfl
                                    have hfz58_0 := blk_frozen BK181.out 0
                                    have hfz58_1 := blk_frozen BK181.out 1
                                    go_wp2
                                    repeat (go_quiet (fail); try go_wp2)
                                    go_roundg k5
                                    case measure => have := HJ6.out; have := HK2.out; have := HJ23.out; have := HJ44.out; have := HK5.out; omega
                                    case rel => exact ⟨(wrap64 (x13_2 + 1)), (by first | rfl | (simp; done) | (simp [*]; done)), H', ⟨by have := HJ6.out; have := HK2.out; have := HJ23.out; have := HJ44.out; have := HK5.out; omega⟩, ⟨by (with_reducible repeat (first | apply Kd.R_alloc | apply Kd.R_drewN | apply Kd.R_drew)); exact HO_3.out⟩, ⟨by (with_reducible repeat (first | apply Kd.R_alloc | apply Kd.R_drewN | apply Kd.R_drew)); exact Kd.R_mono HO_7.out (fun _ hk => trivial)⟩, ⟨by repeat (first | (with_reducible first | exact HB.out | apply below_alloc | apply pw_below_drewN | apply below_drew1 | refine below_set ?_ GE181.out) | exact HB.out)⟩⟩
                · rw [if_neg c23] at H
                  exact absurd H (by simp)
              · rw [if_neg c22] at H
                have c22b0 : decide (x13_2 < (t168.length : Int)) = false := decide_eq_false c22
                clear c22
                obtain rfl := Option.some.inj H
                obtain ⟨Ao59, co59, eo59⟩ := Kd.R_slice HO_7.out
                subst eo59
                go_wp2
                repeat (go_quiet (fail); try go_wp2)
                go_ret
                exact ⟨by first | rfl | (simp [errW_none, errW_some] <;> rfl) | (simp [*, errW_none, errW_some] <;> rfl), by repeat (first | (with_reducible first | exact HB.out | apply below_alloc | apply pw_below_drewN | apply below_drew1) | exact HB.out)⟩

end Go.Proofs.Ytdgaaoeicijemaa.K
