-- made by pp.py (wip/tools) out of the translation; Lean checks it
import Derived.Test.YtdgaaoeicijemaaV0
import Derived.Test.YtdgaaoeicijemaaV1
import Derived.Test.YtdgaaoeicijemaaV2
import Derived.Test.YtdgaaoeicijemaaV3
import Derived.Test.YtdgaaoeicijemaaV5
import Derived.Test.YtdgaaoeicijemaaV6
namespace Go.Proofs.Ytdgaaoeicijemaa.V
open Go.RowKit Go.Proofs.YtdgaaoeicijemaaW.PrintWords Go.Proofs.YtdgaaoeicijemaaW.PrintLast Go.Proofs.YtdgaaoeicijemaaW.PrintMore
attribute [local go_sem] max2_int min2_int max_two min_two max_three min_three max_four min_four   -- for this text's walks alone
set_option linter.unusedVariables false
set_option linter.unusedSimpArgs false

attribute [local go_sem high] eqA61
/-! ### laws_FnPower: function 6 -/
mutual
def laws_FnPower.j0 : Nat → List Int → List Int → Bool → Option (Bool)
  | 0, _, _, _ => none
  | k + 1, x0, x1, x27 => if x27 = true then (some true) else ((spec_PowersOf.f k x0).bind fun t222 => ((spec_PowersOf.f k x1).bind fun t225 => ((impl_PowerOf.f k t222 t222).bind fun bt228 => (if bt228.2.2 = 0 then (if (fNe .f64 bt228.2.1 0) = true then (laws_FnPower.j1 k t222 t225 (mn (t222.length : Int) (t225.length : Int)) true) else (laws_FnPower.j1 k t222 t225 (mn (t222.length : Int) (t225.length : Int)) (fLt .f64 bt228.1 0))) else (laws_FnPower.j1 k t222 t225 (mn (t222.length : Int) (t225.length : Int)) true)))))
def laws_FnPower.j1 : Nat → List (S61) → List (S61) → Int → Bool → Option (Bool)
  | 0, _, _, _, _ => none
  | k + 1, x5, x6, x7, x54 => if x54 = true then (some false) else (if 0 ≤ x7 then (if x7 ≤ (x5.length : Int) then (if x7 ≤ (x6.length : Int) then ((impl_PowerOf.f k (x5.take (x7 : Int).toNat) (x6.take (x7 : Int).toNat)).bind fun bt240 => ((impl_PowerOf.f k (x6.take (x7 : Int).toNat) (x5.take (x7 : Int).toNat)).bind fun bt252 => ((spec_PowerOf.f k (x5.take (x7 : Int).toNat) (x6.take (x7 : Int).toNat)).bind fun bt264 => (if bt240.2.2 = 0 then (if bt252.2.2 = 0 then (if (!(fEq .f64 bt240.1 bt264.1) || (!(fEq .f64 bt240.2.1 bt264.2.1))) = true then (laws_FnPower.j2 k x5 true) else (if (fNe .f64 bt240.1 bt252.1) = true then (laws_FnPower.j2 k x5 true) else (laws_FnPower.j2 k x5 (fNe .f64 bt240.2.1 (Op.negFloat .f64 bt252.2.1))))) else (laws_FnPower.j2 k x5 true)) else (laws_FnPower.j2 k x5 true))))) else (none)) else (none)) else (none))
def laws_FnPower.j2 : Nat → List (S61) → Bool → Option (Bool)
  | 0, _, _ => none
  | k + 1, x5, x110 => if x110 = true then (some false) else ((impl_Bridge.f k x5).bind fun bt268 => ((spec_Bridge.f k x5).bind fun bt272 => (if bt268.2.2 = bt272.2.2 then (some (fEq .f64 bt268.1 bt272.1 && (fEq .f64 bt268.2.1 bt272.2.1))) else (some false))))
end
def laws_FnPower.f (k : Nat) (l0 : List Int) (l1 : List Int) : Option (Bool) := if (l0.length : Int) > 1048576 then (laws_FnPower.j0 k l0 l1 true) else (laws_FnPower.j0 k l0 l1 (decide ((l1.length : Int) > 1048576)))
theorem laws_FnPower.mono_l : ∀ k, (∀ y0 y1 y2, LeO (laws_FnPower.j0 k y0 y1 y2) (laws_FnPower.j0 (k + 1) y0 y1 y2)) ∧ (∀ y0 y1 y2 y3, LeO (laws_FnPower.j1 k y0 y1 y2 y3) (laws_FnPower.j1 (k + 1) y0 y1 y2 y3)) ∧ (∀ y0 y1, LeO (laws_FnPower.j2 k y0 y1) (laws_FnPower.j2 (k + 1) y0 y1))
  | 0 => ⟨fun _ _ _ r h => by simp [laws_FnPower.j0] at h, fun _ _ _ _ r h => by simp [laws_FnPower.j1] at h, fun _ _ r h => by simp [laws_FnPower.j2] at h⟩
  | k + 1 => by
    obtain ⟨ih0, ih1, ih2⟩ := laws_FnPower.mono_l k
    refine ⟨?_, ?_, ?_⟩
    · intro y0 y1 y2
      unfold laws_FnPower.j0
      repeat' first
      | (with_reducible exact ih0 _ _ _)
      | (with_reducible exact ih1 _ _ _ _)
      | (with_reducible exact ih2 _ _)
      | (with_reducible exact impl_Bridge.mono _ _)
      | (with_reducible exact impl_PowerOf.mono _ _ _)
      | (with_reducible exact spec_Bridge.mono _ _)
      | (with_reducible exact spec_PowerOf.mono _ _ _)
      | (with_reducible exact spec_PowersOf.mono _ _)
      | (with_reducible exact LeO.refl _)
      | (with_reducible exact LeO.none _)
      | (with_reducible refine LeO.ite ?_ ?_)
      | (with_reducible refine LeO.bind ?_ (fun _ => ?_))
      | exact ih0 _ _ _
      | exact ih1 _ _ _ _
      | exact ih2 _ _
      | exact impl_Bridge.mono _ _
      | exact impl_PowerOf.mono _ _ _
      | exact spec_Bridge.mono _ _
      | exact spec_PowerOf.mono _ _ _
      | exact spec_PowersOf.mono _ _
      | exact LeO.none _
      | refine LeO.ite ?_ ?_
      | refine LeO.bind ?_ (fun _ => ?_)
    · intro y0 y1 y2 y3
      unfold laws_FnPower.j1
      repeat' first
      | (with_reducible exact ih0 _ _ _)
      | (with_reducible exact ih1 _ _ _ _)
      | (with_reducible exact ih2 _ _)
      | (with_reducible exact impl_Bridge.mono _ _)
      | (with_reducible exact impl_PowerOf.mono _ _ _)
      | (with_reducible exact spec_Bridge.mono _ _)
      | (with_reducible exact spec_PowerOf.mono _ _ _)
      | (with_reducible exact spec_PowersOf.mono _ _)
      | (with_reducible exact LeO.refl _)
      | (with_reducible exact LeO.none _)
      | (with_reducible refine LeO.ite ?_ ?_)
      | (with_reducible refine LeO.bind ?_ (fun _ => ?_))
      | exact ih0 _ _ _
      | exact ih1 _ _ _ _
      | exact ih2 _ _
      | exact impl_Bridge.mono _ _
      | exact impl_PowerOf.mono _ _ _
      | exact spec_Bridge.mono _ _
      | exact spec_PowerOf.mono _ _ _
      | exact spec_PowersOf.mono _ _
      | exact LeO.none _
      | refine LeO.ite ?_ ?_
      | refine LeO.bind ?_ (fun _ => ?_)
    · intro y0 y1
      unfold laws_FnPower.j2
      repeat' first
      | (with_reducible exact ih0 _ _ _)
      | (with_reducible exact ih1 _ _ _ _)
      | (with_reducible exact ih2 _ _)
      | (with_reducible exact impl_Bridge.mono _ _)
      | (with_reducible exact impl_PowerOf.mono _ _ _)
      | (with_reducible exact spec_Bridge.mono _ _)
      | (with_reducible exact spec_PowerOf.mono _ _ _)
      | (with_reducible exact spec_PowersOf.mono _ _)
      | (with_reducible exact LeO.refl _)
      | (with_reducible exact LeO.none _)
      | (with_reducible refine LeO.ite ?_ ?_)
      | (with_reducible refine LeO.bind ?_ (fun _ => ?_))
      | exact ih0 _ _ _
      | exact ih1 _ _ _ _
      | exact ih2 _ _
      | exact impl_Bridge.mono _ _
      | exact impl_PowerOf.mono _ _ _
      | exact spec_Bridge.mono _ _
      | exact spec_PowerOf.mono _ _ _
      | exact spec_PowersOf.mono _ _
      | exact LeO.none _
      | refine LeO.ite ?_ ?_
      | refine LeO.bind ?_ (fun _ => ?_)
theorem laws_FnPower.mono : ∀ a0 a1 k, LeO (laws_FnPower.f k a0 a1) (laws_FnPower.f (k + 1) a0 a1) := by
  intro a0 a1 k
  obtain ⟨ih0, ih1, ih2⟩ := laws_FnPower.mono_l k
  unfold laws_FnPower.f
  repeat' first
      | (with_reducible exact ih0 _ _ _)
      | (with_reducible exact ih1 _ _ _ _)
      | (with_reducible exact ih2 _ _)
      | (with_reducible exact impl_Bridge.mono _ _)
      | (with_reducible exact impl_PowerOf.mono _ _ _)
      | (with_reducible exact spec_Bridge.mono _ _)
      | (with_reducible exact spec_PowerOf.mono _ _ _)
      | (with_reducible exact spec_PowersOf.mono _ _)
      | (with_reducible exact LeO.refl _)
      | (with_reducible exact LeO.none _)
      | (with_reducible refine LeO.ite ?_ ?_)
      | (with_reducible refine LeO.bind ?_ (fun _ => ?_))
      | exact ih0 _ _ _
      | exact ih1 _ _ _ _
      | exact ih2 _ _
      | exact impl_Bridge.mono _ _
      | exact impl_PowerOf.mono _ _ _
      | exact spec_Bridge.mono _ _
      | exact spec_PowerOf.mono _ _ _
      | exact spec_PowersOf.mono _ _
      | exact LeO.none _
      | refine LeO.ite ?_ ?_
      | refine LeO.bind ?_ (fun _ => ?_)
def laws_FnPower.T9 : Bool × List (List Nat × List Nat) := (true, [([], []), ([], []), ([0, 1], [0, 1]), ([], []), ([], []), ([3, 4], [3, 4]), ([2, 5], [2, 5]), ([6], [6]), ([7], [7]), ([7], [7]), ([], []), ([10, 8, 6, 0, 1, 2, 3, 4, 5, 6, 7, 8, 10], [8, 10]), ([9, 11, 0, 1, 2, 3, 4, 5, 6, 7, 8, 9, 10, 11], [9])])
def laws_FnPower.B9 : List Nat := [0, 0, 3, 0, 0, 24, 63, 127, 255, 255, 0, 1535, 4095]
theorem laws_FnPower.tab9 : rtab .any (opsOf Try.f6 9) = laws_FnPower.T9 := by kernel_rfl
theorem laws_FnPower.bits9 : waitsOk laws_FnPower.T9.2 laws_FnPower.B9 = true := by kernel_rfl
def laws_FnPower.T10 : Bool × List (List Nat × List Nat) := (true, [([], []), ([], []), ([0, 1], [0, 1]), ([], []), ([], []), ([3, 4], [3, 4]), ([2, 5], [2, 5]), ([6], [6]), ([7], [7]), ([7], [7]), ([], []), ([10, 8, 6, 0, 1, 2, 3, 4, 5, 6, 7, 8, 10], [8, 10]), ([9, 11, 0, 1, 2, 3, 4, 5, 6, 7, 8, 9, 10, 11], [9])])
def laws_FnPower.B10 : List Nat := [0, 0, 3, 0, 0, 24, 63, 127, 255, 255, 0, 1535, 4095]
theorem laws_FnPower.tab10 : rtab .any (opsOf Try.f6 10) = laws_FnPower.T10 := by kernel_rfl
theorem laws_FnPower.bits10 : waitsOk laws_FnPower.T10.2 laws_FnPower.B10 = true := by kernel_rfl
def laws_FnPower.T11 : Bool × List (List Nat × List Nat) := (true, [([], []), ([], []), ([0, 1], [0, 1]), ([], []), ([], []), ([3, 4], [3, 4]), ([2, 5], [2, 5]), ([6], [6]), ([7], [7]), ([7], [7]), ([], []), ([10, 8, 6, 0, 1, 2, 3, 4, 5, 6, 7, 8, 10], [8, 10]), ([9, 11, 0, 1, 2, 3, 4, 5, 6, 7, 8, 9, 10, 11], [9])])
def laws_FnPower.B11 : List Nat := [0, 0, 3, 0, 0, 24, 63, 127, 255, 255, 0, 1535, 4095]
theorem laws_FnPower.tab11 : rtab .any (opsOf Try.f6 11) = laws_FnPower.T11 := by kernel_rfl
theorem laws_FnPower.bits11 : waitsOk laws_FnPower.T11.2 laws_FnPower.B11 = true := by kernel_rfl
set_option maxHeartbeats 8000000 in
set_option maxRecDepth 100000 in
theorem laws_FnPower.calls (k : Nat) (A0 : Option Addr) (c0 : Nat) (l0 : List Int) (A1 : Option Addr) (c1 : Nat) (l1 : List Int) (r : Bool) (w : World) (hr0 : Kd.C (Kd.int .u8) w A0 l0.length l0) (hc0 : l0.length ≤ c0) (hr1 : Kd.C (Kd.int .u8) w A1 l1.length l1) (hc1 : l1.length ≤ c1) (h : laws_FnPower.f k l0 l1 = some r) :
    Calls Try.prog 6 #[.slice A0 l0.length c0, .slice A1 l1.length c1] w fun e w' => e = .returned (.bool r) ∧ Below w.heap.size w w' := by
  have hu61 := Try.underlying61
  have HR0 := Aside0.mk hr0
  have HC0 := Aside0.mk hc0
  clear hr0 hc0
  have HR1 := Aside0.mk hr1
  have HC1 := Aside0.mk hc1
  clear hr1 hc1
  have HB := Aside0.mk (Below.refl w.heap.size w)
  have H : (if (l0.length : Int) > 1048576 then (laws_FnPower.j0 k l0 l1 true) else (laws_FnPower.j0 k l0 l1 (decide ((l1.length : Int) > 1048576)))) = some r := h
  clear h
  have HC3 := Aside0.mk H
  clear H
  go_enter Try.func6, Try.ntmps6
  go_upto_region 1 with (fail)
  go_cut [27] (fun v27 wc => ∃ (kq : Nat) (x27_2 : Bool), v27 = .bool x27_2 ∧ Aside0 (laws_FnPower.j0 kq l0 l1 x27_2 = some r) ∧ Aside0 (kq ≤ k) ∧ Aside0 (Below w.heap.size w wc))
  case first =>
    have H := HC3.out
    clear HC3
    by_cases c4 : (l0.length : Int) > 1048576
    · rw [if_pos c4] at H
      have c4b0 : decide (1048576 < (l0.length : Int)) = true := decide_eq_true c4
      have c4b1 : decide (1048576 < l0.length) = true := decide_eq_true (by omega)
      clear c4
      (first | rw [c4b0] | (simp only [i64_w, i32_w]; rw [c4b0]) | skip)
      have H' := Aside0.mk H
      clear H
      go_wp2
      go_meet
      case rel => exact ⟨_, (true), (by first | rfl | (simp; done) | (simp [*]; done)), H', ⟨by first | omega | exact Nat.le_refl _⟩, ⟨by repeat (first | (with_reducible first | exact HB.out | apply below_alloc | apply pw_below_drewN | apply below_drew1) | exact HB.out)⟩⟩
    · rw [if_neg c4] at H
      have c4b0 : decide (1048576 < (l0.length : Int)) = false := decide_eq_false c4
      have c4b1 : decide (1048576 < l0.length) = false := decide_eq_false (by omega)
      clear c4
      (first | rw [c4b0] | (simp only [i64_w, i32_w]; rw [c4b0]) | skip)
      have H' := Aside0.mk H
      clear H
      go_wp2
      go_meet
      case rel => exact ⟨_, (decide ((l1.length : Int) > 1048576)), (by first | rfl | (simp; done) | (simp [*]; done)), H', ⟨by first | omega | exact Nat.le_refl _⟩, ⟨by repeat (first | (with_reducible first | exact HB.out | apply below_alloc | apply pw_below_drewN | apply below_drew1) | exact HB.out)⟩⟩
  case rest =>
    clear HC3
    try clear c1
    try clear p2
    try clear c4
    try clear c4b0
    try clear c4b1
    obtain ⟨kq, x27_2, rfl, HA, HJ2, HB⟩ := hcut
    cases kq with
    | zero => exact absurd HA.out (by simp [laws_FnPower.j0])
    | succ kj2 =>
      have H := HA.out
      clear HA
      simp only [laws_FnPower.j0] at H
      by_cases c5 : x27_2 = true
      · subst c5
        have H1 : (some true) = some r := by rw [if_pos rfl] at H; exact H
        clear H
        have H := H1
        clear H1
        obtain rfl := Option.some.inj H
        go_wp2
        go_ret
        exact ⟨by first | rfl | (simp [errW_none, errW_some] <;> rfl) | (simp [*, errW_none, errW_some] <;> rfl), by repeat (first | (with_reducible first | exact HB.out | apply below_alloc | apply pw_below_drewN | apply below_drew1) | exact HB.out)⟩
      · replace c5 := Bool.eq_false_iff.mpr c5
        subst c5
        have H1 : ((spec_PowersOf.f kj2 l0).bind fun t222 => ((spec_PowersOf.f kj2 l1).bind fun t225 => ((impl_PowerOf.f kj2 t222 t222).bind fun bt228 => (if bt228.2.2 = 0 then (if (fNe .f64 bt228.2.1 0) = true then (laws_FnPower.j1 kj2 t222 t225 (mn (t222.length : Int) (t225.length : Int)) true) else (laws_FnPower.j1 kj2 t222 t225 (mn (t222.length : Int) (t225.length : Int)) (fLt .f64 bt228.1 0))) else (laws_FnPower.j1 kj2 t222 t225 (mn (t222.length : Int) (t225.length : Int)) true))))) = some r := by rw [if_neg (show ¬ (false = true) by decide)] at H; exact H
        clear H
        have H := H1
        clear H1
        replace H := Option.bind_eq_some_iff.mp H
        obtain ⟨t222, A60, H⟩ := H
        replace H : ((spec_PowersOf.f kj2 l1).bind fun t225 => ((impl_PowerOf.f kj2 t222 t222).bind fun bt228 => (if bt228.2.2 = 0 then (if (fNe .f64 bt228.2.1 0) = true then (laws_FnPower.j1 kj2 t222 t225 (mn (t222.length : Int) (t225.length : Int)) true) else (laws_FnPower.j1 kj2 t222 t225 (mn (t222.length : Int) (t225.length : Int)) (fLt .f64 bt228.1 0))) else (laws_FnPower.j1 kj2 t222 t225 (mn (t222.length : Int) (t225.length : Int)) true)))) = some r := H
        have A6 := Aside0.mk A60
        clear A60
        replace H := Option.bind_eq_some_iff.mp H
        obtain ⟨t225, A70, H⟩ := H
        replace H : ((impl_PowerOf.f kj2 t222 t222).bind fun bt228 => (if bt228.2.2 = 0 then (if (fNe .f64 bt228.2.1 0) = true then (laws_FnPower.j1 kj2 t222 t225 (mn (t222.length : Int) (t225.length : Int)) true) else (laws_FnPower.j1 kj2 t222 t225 (mn (t222.length : Int) (t225.length : Int)) (fLt .f64 bt228.1 0))) else (laws_FnPower.j1 kj2 t222 t225 (mn (t222.length : Int) (t225.length : Int)) true))) = some r := H
        have A7 := Aside0.mk A70
        clear A70
        obtain ⟨ji8, hji8⟩ : ∃ j_ : Int, (mn (t222.length : Int) (t225.length : Int)) = j_ := ⟨_, rfl⟩
        replace H : ((impl_PowerOf.f kj2 t222 t222).bind fun bt228 => (if bt228.2.2 = 0 then (if (fNe .f64 bt228.2.1 0) = true then (laws_FnPower.j1 kj2 t222 t225 ji8 true) else (laws_FnPower.j1 kj2 t222 t225 ji8 (fLt .f64 bt228.1 0))) else (laws_FnPower.j1 kj2 t222 t225 ji8 true))) = some r := by first | (rw [hji8] at H; exact H) | (simp only [hji8] at H ⊢; exact H)
        (try rw [hji8] at A6)
        (try rw [hji8] at A7)
        (try (have hji8l : 0 ≤ ji8 := by (rw [← hji8]; unfold mn; (repeat' split) <;> omega)))
        (try (have hji8m : 0 ≤ ji8 := by omega))
        have hji8_ : (if (t225.length : Int) < (t222.length : Int) then (t225.length : Int) else (t222.length : Int)) = ji8 := hji8
        have hji8n_ := hji8_
        (try simp only [Int.ofNat_lt] at hji8n_)
        replace H := Option.bind_eq_some_iff.mp H
        obtain ⟨⟨t228, t229, t230⟩, A90, H⟩ := H
        replace H : (if t230 = 0 then (if (fNe .f64 t229 0) = true then (laws_FnPower.j1 kj2 t222 t225 ji8 true) else (laws_FnPower.j1 kj2 t222 t225 ji8 (fLt .f64 t228 0))) else (laws_FnPower.j1 kj2 t222 t225 ji8 true)) = some r := H
        have A9 := Aside0.mk A90
        clear A90
        have HC10 := Aside0.mk H
        clear H
        go_upto_region 7 with (first | ((with_reducible refine gate_callee (f := 23) rfl ?_); refine goesL_ (some 29) rfl rfl Try.func23 (by kernel_rfl) rfl #[.slice A0 l0.length c0] rfl (by (try simp only [List.map_toArray, List.map_cons, List.map_nil]); first | done | rfl | (simp only [List.length_drop, List.length_take]; rfl)) ?_; (with_reducible refine (spec_PowersOf.calls kj2 _ _ l0 t222 _ ?side1 ?side2 A6.out).mono ?_); (case side1 => repeat (first | exact (Kd.C_below HR0.out HB.out) | (with_reducible refine Kd.C_alloc ?_ _) | (with_reducible refine Kd.C_drewN ?_ _) | (with_reducible refine Kd.C_drew ?_))); (case side2 => exact HC0.out); rintro e w11 ⟨v223, rfl, ho0, hb⟩; refine ⟨_, rfl, ?_⟩; have n0_ := Aside0.mk (Kd.R_lower ho0 (below_size (by repeat (first | (with_reducible first | exact HB.out | apply below_alloc | apply pw_below_drewN | apply below_drew1) | exact HB.out)))); have n1_ := Aside0.mk (below_step (by repeat (first | (with_reducible first | exact HB.out | apply below_alloc | apply pw_below_drewN | apply below_drew1) | exact HB.out)) hb); clear HB; have HO224 := n0_; have HB := n1_; clear n0_ n1_; (try clear hb); (try clear hb2); (try clear hk); (try clear hi); (try clear ho0)) | ((with_reducible refine gate_callee (f := 23) rfl ?_); refine goesL_ (some 31) rfl rfl Try.func23 (by kernel_rfl) rfl #[.slice A1 l1.length c1] rfl (by (try simp only [List.map_toArray, List.map_cons, List.map_nil]); first | done | rfl | (simp only [List.length_drop, List.length_take]; rfl)) ?_; (with_reducible refine (spec_PowersOf.calls kj2 _ _ l1 t225 _ ?side1 ?side2 A7.out).mono ?_); (case side1 => repeat (first | exact (Kd.C_below HR1.out HB.out) | (with_reducible refine Kd.C_alloc ?_ _) | (with_reducible refine Kd.C_drewN ?_ _) | (with_reducible refine Kd.C_drew ?_))); (case side2 => exact HC1.out); rintro e w12 ⟨v226, rfl, ho0, hb⟩; refine ⟨_, rfl, ?_⟩; have n0_ := Aside0.mk (Kd.R_elder' (by (with_reducible repeat (first | apply Kd.R_alloc | apply Kd.R_drewN | apply Kd.R_drew)); exact HO224.out) (Kd.R_base ho0) hb); have n1_ := Aside0.mk (Kd.R_lower (Kd.R_new' ho0 (Kd.R_lt (by (with_reducible repeat (first | apply Kd.R_alloc | apply Kd.R_drewN | apply Kd.R_drew)); exact HO224.out))) (below_size (by repeat (first | (with_reducible first | exact HB.out | apply below_alloc | apply pw_below_drewN | apply below_drew1) | exact HB.out)))); have n2_ := Aside0.mk (below_step (by repeat (first | (with_reducible first | exact HB.out | apply below_alloc | apply pw_below_drewN | apply below_drew1) | exact HB.out)) hb); clear HO224; clear HB; have HO224 := n0_; have HO227 := n1_; have HB := n2_; clear n0_ n1_ n2_; (try clear hb); (try clear hb2); (try clear hk); (try clear hi); (try clear ho0); obtain ⟨Ao13, co13, eo13⟩ := Kd.R_slice HO224.out; subst eo13; obtain ⟨Ao14, co14, eo14⟩ := Kd.R_slice HO227.out; subst eo14) | ((with_reducible refine gate_callee (f := 24) rfl ?_); refine goesL_ (some 40) rfl rfl Try.func24 (by kernel_rfl) rfl #[.slice Ao13 t222.length co13, .slice Ao13 t222.length co13] rfl (by (try simp only [List.map_toArray, List.map_cons, List.map_nil]); first | done | rfl | (simp only [List.length_drop, List.length_take]; rfl)) ?_; (with_reducible refine (impl_PowerOf.calls kj2 _ _ t222 _ _ t222 t228 t229 t230 _ ?side1 ?side2 ?side3 ?side4 A9.out).mono ?_); (case side1 => repeat (first | exact (Kd.R_reads' HO224.out).2.2 | (with_reducible refine Kd.C_alloc ?_ _) | (with_reducible refine Kd.C_drewN ?_ _) | (with_reducible refine Kd.C_drew ?_))); (case side2 => exact (Kd.R_reads' HO224.out).2.1); (case side3 => repeat (first | exact (Kd.R_reads' HO224.out).2.2 | (with_reducible refine Kd.C_alloc ?_ _) | (with_reducible refine Kd.C_drewN ?_ _) | (with_reducible refine Kd.C_drew ?_))); (case side4 => exact (Kd.R_reads' HO224.out).2.1); rintro e w15 ⟨rfl, hb⟩; refine ⟨_, rfl, ?_⟩; have n0_ := Aside0.mk (Kd.R_below (by (with_reducible repeat (first | apply Kd.R_alloc | apply Kd.R_drewN | apply Kd.R_drew)); exact HO224.out) hb); have n1_ := Aside0.mk (Kd.R_below (by (with_reducible repeat (first | apply Kd.R_alloc | apply Kd.R_drewN | apply Kd.R_drew)); exact HO227.out) hb); have n2_ := Aside0.mk (below_step (by repeat (first | (with_reducible first | exact HB.out | apply below_alloc | apply pw_below_drewN | apply below_drew1) | exact HB.out)) hb); clear HO224; clear HO227; clear HB; have HO224 := n0_; have HO227 := n1_; have HB := n2_; clear n0_ n1_ n2_; (try clear hb); (try clear hb2); (try clear hk); (try clear hi)) | ((with_reducible refine gate_dst (N := 8) rfl ?_); (try (refine gate_guard (by rfl) ?_; dsimp only)); refine box_event ?hg (N := 8) ?hd (cs := #[.float .f64 0, .float .f64 0]) (t := 61) ?hr ?_; (case hd => rfl); (case hg => rfl); (case hr => first | (go_simp; done) | (go_simp; rfl)); intro gb231 hg w16 hbox hb; have n0_ := Aside0.mk (Kd.R_below (Kd.R_elderB (by (with_reducible repeat (first | apply Kd.R_alloc | apply Kd.R_drewN | apply Kd.R_drew)); exact HO224.out) gb231 (Nat.le_of_eq hg.symm)) hb); have n1_ := Aside0.mk (Kd.R_below (Kd.R_elderB (by (with_reducible repeat (first | apply Kd.R_alloc | apply Kd.R_drewN | apply Kd.R_drew)); exact HO227.out) gb231 (Nat.le_of_eq hg.symm)) hb); have n2_ := Aside0.mk (below_step (by repeat (first | (with_reducible first | exact HB.out | apply below_alloc | apply pw_below_drewN | apply below_drew1) | exact HB.out)) hb); have n3_ := Aside0.mk (hbox); have n4_ := Aside0.mk ((by rw [hg]; exact (below_size (by repeat (first | (with_reducible first | exact HB.out | apply below_alloc | apply pw_below_drewN | apply below_drew1) | exact HB.out))) : w.heap.size ≤ gb231)); have n5_ := Aside0.mk ((by rw [hg]; exact (below_size (by repeat (first | (with_reducible first | exact HB.out | apply below_alloc | apply pw_below_drewN | apply below_drew1) | exact HB.out))) : w.heap.size ≤ gb231)); clear HO224; clear HO227; clear HB; have HO224 := n0_; have HO227 := n1_; have HB := n2_; have BK231 := n3_; have GW231 := n4_; have GE231 := n5_; clear n0_ n1_ n2_ n3_ n4_ n5_; clear hb hbox hg; have hcz17_0 : w16.cell? ⟨gb231, 0, none⟩ = some (.float .f64 0) := (blk_cell BK231.out 0).trans rfl; have hcz17_1 : w16.cell? ⟨gb231, 1, none⟩ = some (.float .f64 0) := (blk_cell BK231.out 1).trans rfl; have hfz17_0 := blk_frozen BK231.out 0; have hfz17_1 := blk_frozen BK231.out 1))
        (try simp only [Act.put, List.setIfInBounds_toArray, List.set_cons_zero, List.set_cons_succ])
        (try simp only [hji8_]); (try simp only [hji8n_])
        go_cut [54] (fun v54 wc => ∃ (kq : Nat) (x54_9 : Bool), v54 = .bool x54_9 ∧ Aside0 (laws_FnPower.j1 kq t222 t225 ji8 x54_9 = some r) ∧ Aside0 (kq ≤ kj2) ∧ Aside0 (Kd.R k61 61 wc w.heap.size (fun k_ => some k_ ≠ ((.slice Ao14 t225.length co14) : Value).ownBlock ∧ k_ ≠ gb231) (.slice Ao13 t222.length co13) t222) ∧ Aside0 (Kd.R k61 61 wc w.heap.size (fun k_ => some k_ ≠ ((.slice Ao13 t222.length co13) : Value).ownBlock ∧ k_ ≠ gb231) (.slice Ao14 t225.length co14) t225) ∧ Aside0 (wc.heap[gb231]? = some (.cells #[.float .f64 t228, .float .f64 t229] 61 (0, 0))) ∧ Aside0 (Below w.heap.size w wc))
        case first =>
          have H := HC10.out
          clear HC10
          by_cases c18 : t230 = 0
          · rw [if_pos c18] at H
            have c18b0 : (t230 == 0) = true := beq_iff_eq.mpr c18
            have c18b1 : (t230 != 0) = false := bne_eq_false_iff_eq.mpr c18
            clear c18
            (first | rw [c18b0] | (simp only [i64_w, i32_w]; rw [c18b0]) | skip)
            by_cases c19 : (fNe .f64 t229 0) = true
            · rw [if_pos c19] at H
              have c19b0 : (fNe .f64 t229 0) = true := c19
              clear c19
              have H' := Aside0.mk H
              clear H
              have hcz20_0 : w16.cell? ⟨gb231, 0, none⟩ = some (.float .f64 0) := (blk_cell BK231.out 0).trans rfl
              have hcz20_1 : w16.cell? ⟨gb231, 1, none⟩ = some (.float .f64 0) := (blk_cell BK231.out 1).trans rfl
              have hfz20_0 := blk_frozen BK231.out 0
              have hfz20_1 := blk_frozen BK231.out 1
              go_wp2
              go_meet
              case rel => exact ⟨_, (true), (by first | rfl | (simp; done) | (simp [*]; done)), H', ⟨by have := HJ2.out; first | omega | exact Nat.le_refl _⟩, ⟨by (with_reducible repeat (first | apply Kd.R_alloc | apply Kd.R_drewN | apply Kd.R_drew)); exact Kd.R_mono (Kd.R_far (p := ⟨gb231, 1, none⟩) (Kd.R_far (p := ⟨gb231, 0, none⟩) (Kd.R_mono HO224.out (fun k_ hk => (⟨hk, hk.2⟩ : _ ∧ k_ ≠ gb231))) (fun _ hk => hk.2) (.float .f64 t228)) (fun _ hk => hk.2) (.float .f64 t229)) (fun _ hk => ⟨hk.1.1.2, hk.1.2⟩)⟩, ⟨by (with_reducible repeat (first | apply Kd.R_alloc | apply Kd.R_drewN | apply Kd.R_drew)); exact Kd.R_mono (Kd.R_far (p := ⟨gb231, 1, none⟩) (Kd.R_far (p := ⟨gb231, 0, none⟩) (Kd.R_mono HO227.out (fun k_ hk => (⟨hk, hk.2⟩ : _ ∧ k_ ≠ gb231))) (fun _ hk => hk.2) (.float .f64 t228)) (fun _ hk => hk.2) (.float .f64 t229)) (fun _ hk => ⟨hk.1.1.2, hk.1.2⟩)⟩, ⟨by (with_reducible repeat (first | refine blk_drewN ?_ _ | refine blk_drew ?_ | refine blk_alloc ?_ _)); refine blk_put (cs := #[.float .f64 t228, .float .f64 0]) ?_ 1 _ rfl; (with_reducible repeat (first | refine blk_drewN ?_ _ | refine blk_drew ?_ | refine blk_alloc ?_ _)); refine blk_put (cs := #[.float .f64 0, .float .f64 0]) ?_ 0 _ rfl; (with_reducible repeat (first | refine blk_drewN ?_ _ | refine blk_drew ?_ | refine blk_alloc ?_ _)); exact BK231.out⟩, ⟨by repeat (first | (with_reducible first | exact HB.out | apply below_alloc | apply pw_below_drewN | apply below_drew1 | refine below_set ?_ GE231.out) | exact HB.out)⟩⟩
            · rw [if_neg c19] at H
              have c19b0 : (fNe .f64 t229 0) = false := by simpa using c19
              clear c19
              have H' := Aside0.mk H
              clear H
              have hcz21_0 : w16.cell? ⟨gb231, 0, none⟩ = some (.float .f64 0) := (blk_cell BK231.out 0).trans rfl
              have hcz21_1 : w16.cell? ⟨gb231, 1, none⟩ = some (.float .f64 0) := (blk_cell BK231.out 1).trans rfl
              have hfz21_0 := blk_frozen BK231.out 0
              have hfz21_1 := blk_frozen BK231.out 1
              go_wp2
              go_meet
              case rel => exact ⟨_, ((fLt .f64 t228 0)), (by first | rfl | (simp; done) | (simp [*]; done)), H', ⟨by have := HJ2.out; first | omega | exact Nat.le_refl _⟩, ⟨by (with_reducible repeat (first | apply Kd.R_alloc | apply Kd.R_drewN | apply Kd.R_drew)); exact Kd.R_mono (Kd.R_far (p := ⟨gb231, 1, none⟩) (Kd.R_far (p := ⟨gb231, 0, none⟩) (Kd.R_mono HO224.out (fun k_ hk => (⟨hk, hk.2⟩ : _ ∧ k_ ≠ gb231))) (fun _ hk => hk.2) (.float .f64 t228)) (fun _ hk => hk.2) (.float .f64 t229)) (fun _ hk => ⟨hk.1.1.2, hk.1.2⟩)⟩, ⟨by (with_reducible repeat (first | apply Kd.R_alloc | apply Kd.R_drewN | apply Kd.R_drew)); exact Kd.R_mono (Kd.R_far (p := ⟨gb231, 1, none⟩) (Kd.R_far (p := ⟨gb231, 0, none⟩) (Kd.R_mono HO227.out (fun k_ hk => (⟨hk, hk.2⟩ : _ ∧ k_ ≠ gb231))) (fun _ hk => hk.2) (.float .f64 t228)) (fun _ hk => hk.2) (.float .f64 t229)) (fun _ hk => ⟨hk.1.1.2, hk.1.2⟩)⟩, ⟨by (with_reducible repeat (first | refine blk_drewN ?_ _ | refine blk_drew ?_ | refine blk_alloc ?_ _)); refine blk_put (cs := #[.float .f64 t228, .float .f64 0]) ?_ 1 _ rfl; (with_reducible repeat (first | refine blk_drewN ?_ _ | refine blk_drew ?_ | refine blk_alloc ?_ _)); refine blk_put (cs := #[.float .f64 0, .float .f64 0]) ?_ 0 _ rfl; (with_reducible repeat (first | refine blk_drewN ?_ _ | refine blk_drew ?_ | refine blk_alloc ?_ _)); exact BK231.out⟩, ⟨by repeat (first | (with_reducible first | exact HB.out | apply below_alloc | apply pw_below_drewN | apply below_drew1 | refine below_set ?_ GE231.out) | exact HB.out)⟩⟩
          · rw [if_neg c18] at H
            have c18b0 : (t230 == 0) = false := beq_eq_false_iff_ne.mpr c18
            have c18b1 : (t230 != 0) = true := bne_iff_ne.mpr c18
            (first | rw [c18b0] | (simp only [i64_w, i32_w]; rw [c18b0]) | skip)
            have H' := Aside0.mk H
            clear H
            go_wp2
            go_meet
            case rel => exact ⟨_, (true), (by first | rfl | (simp; done) | (simp [*]; done)), H', ⟨by have := HJ2.out; first | omega | exact Nat.le_refl _⟩, ⟨by (with_reducible repeat (first | apply Kd.R_alloc | apply Kd.R_drewN | apply Kd.R_drew)); exact Kd.R_mono (Kd.R_far (p := ⟨gb231, 1, none⟩) (Kd.R_far (p := ⟨gb231, 0, none⟩) (Kd.R_mono HO224.out (fun k_ hk => (⟨hk, hk.2⟩ : _ ∧ k_ ≠ gb231))) (fun _ hk => hk.2) (.float .f64 t228)) (fun _ hk => hk.2) (.float .f64 t229)) (fun _ hk => ⟨hk.1.1.2, hk.1.2⟩)⟩, ⟨by (with_reducible repeat (first | apply Kd.R_alloc | apply Kd.R_drewN | apply Kd.R_drew)); exact Kd.R_mono (Kd.R_far (p := ⟨gb231, 1, none⟩) (Kd.R_far (p := ⟨gb231, 0, none⟩) (Kd.R_mono HO227.out (fun k_ hk => (⟨hk, hk.2⟩ : _ ∧ k_ ≠ gb231))) (fun _ hk => hk.2) (.float .f64 t228)) (fun _ hk => hk.2) (.float .f64 t229)) (fun _ hk => ⟨hk.1.1.2, hk.1.2⟩)⟩, ⟨by (with_reducible repeat (first | refine blk_drewN ?_ _ | refine blk_drew ?_ | refine blk_alloc ?_ _)); refine blk_put (cs := #[.float .f64 t228, .float .f64 0]) ?_ 1 _ rfl; (with_reducible repeat (first | refine blk_drewN ?_ _ | refine blk_drew ?_ | refine blk_alloc ?_ _)); refine blk_put (cs := #[.float .f64 0, .float .f64 0]) ?_ 0 _ rfl; (with_reducible repeat (first | refine blk_drewN ?_ _ | refine blk_drew ?_ | refine blk_alloc ?_ _)); exact BK231.out⟩, ⟨by repeat (first | (with_reducible first | exact HB.out | apply below_alloc | apply pw_below_drewN | apply below_drew1 | refine below_set ?_ GE231.out) | exact HB.out)⟩⟩
        case rest =>
          clear HC10
          try clear c1
          try clear c2
          try clear p2
          try clear c4
          try clear c4b0
          try clear c4b1
          try clear c5
          try clear c6
          try clear c18
          try clear c18b0
          try clear c18b1
          try clear c19
          try clear c19b0
          try clear hcz17_0
          try clear hcz17_1
          try clear hcz20_0
          try clear hcz20_1
          try clear hcz21_0
          try clear hcz21_1
          try clear hfz17_0
          try clear hfz17_1
          try clear hfz20_0
          try clear hfz20_1
          try clear hfz21_0
          try clear hfz21_1
          try clear p2
          obtain ⟨kq, x54_9, rfl, HA, HJ9, HO_5, HO_6, BK231, HB⟩ := hcut
          cases kq with
          | zero => exact absurd HA.out (by simp [laws_FnPower.j1])
          | succ kj9 =>
            have H := HA.out
            clear HA
            simp only [laws_FnPower.j1] at H
            by_cases c22 : x54_9 = true
            · subst c22
              have H1 : (some false) = some r := by rw [if_pos rfl] at H; exact H
              clear H
              have H := H1
              clear H1
              obtain rfl := Option.some.inj H
              go_wp2
              go_ret
              exact ⟨by first | rfl | (simp [errW_none, errW_some] <;> rfl) | (simp only [← hji8]; first | rfl | (simp [errW_none, errW_some] <;> rfl)) | (simp [*, errW_none, errW_some] <;> rfl), by repeat (first | (with_reducible first | exact HB.out | apply below_alloc | apply pw_below_drewN | apply below_drew1 | refine below_set ?_ GE231.out) | exact HB.out)⟩
            · replace c22 := Bool.eq_false_iff.mpr c22
              subst c22
              have H1 : (if 0 ≤ ji8 then (if ji8 ≤ (t222.length : Int) then (if ji8 ≤ (t225.length : Int) then ((impl_PowerOf.f kj9 (t222.take (ji8 : Int).toNat) (t225.take (ji8 : Int).toNat)).bind fun bt240 => ((impl_PowerOf.f kj9 (t225.take (ji8 : Int).toNat) (t222.take (ji8 : Int).toNat)).bind fun bt252 => ((spec_PowerOf.f kj9 (t222.take (ji8 : Int).toNat) (t225.take (ji8 : Int).toNat)).bind fun bt264 => (if bt240.2.2 = 0 then (if bt252.2.2 = 0 then (if (!(fEq .f64 bt240.1 bt264.1) || (!(fEq .f64 bt240.2.1 bt264.2.1))) = true then (laws_FnPower.j2 kj9 t222 true) else (if (fNe .f64 bt240.1 bt252.1) = true then (laws_FnPower.j2 kj9 t222 true) else (laws_FnPower.j2 kj9 t222 (fNe .f64 bt240.2.1 (Op.negFloat .f64 bt252.2.1))))) else (laws_FnPower.j2 kj9 t222 true)) else (laws_FnPower.j2 kj9 t222 true))))) else (none)) else (none)) else (none)) = some r := by rw [if_neg (show ¬ (false = true) by decide)] at H; exact H
              clear H
              have H := H1
              clear H1
              by_cases c23 : 0 ≤ ji8
              · rw [if_pos c23] at H
                have c23b0 := eq_true c23
                have c23b1 : decide (0 ≤ ji8) = true := decide_eq_true c23
                clear c23
                by_cases c24 : ji8 ≤ (t222.length : Int)
                · rw [if_pos c24] at H
                  have c24b0 := eq_true c24
                  have c24b1 : decide (ji8 ≤ (t222.length : Int)) = true := decide_eq_true c24
                  clear c24
                  obtain ⟨y232, hy232⟩ : ∃ y_ : List (S61), y_ = (t222.take (ji8 : Int).toNat) := ⟨_, rfl⟩
                  replace H : (if ji8 ≤ (t225.length : Int) then ((impl_PowerOf.f kj9 y232 (t225.take (ji8 : Int).toNat)).bind fun bt240 => ((impl_PowerOf.f kj9 (t225.take (ji8 : Int).toNat) (t222.take (ji8 : Int).toNat)).bind fun bt252 => ((spec_PowerOf.f kj9 (t222.take (ji8 : Int).toNat) (t225.take (ji8 : Int).toNat)).bind fun bt264 => (if bt240.2.2 = 0 then (if bt252.2.2 = 0 then (if (!(fEq .f64 bt240.1 bt264.1) || (!(fEq .f64 bt240.2.1 bt264.2.1))) = true then (laws_FnPower.j2 kj9 t222 true) else (if (fNe .f64 bt240.1 bt252.1) = true then (laws_FnPower.j2 kj9 t222 true) else (laws_FnPower.j2 kj9 t222 (fNe .f64 bt240.2.1 (Op.negFloat .f64 bt252.2.1))))) else (laws_FnPower.j2 kj9 t222 true)) else (laws_FnPower.j2 kj9 t222 true))))) else (none)) = some r := by first | (rw [hy232]; with_reducible exact H) | (have H2_ := (Option.bind_some _ _).symm.trans H; rw [hy232]; with_reducible exact H2_) | (have H2_ := (Option.bind_some _ _).symm.trans H; with_reducible exact H2_) | with_reducible exact H | (rw [hy232]; exact H) | exact H
                  have Ny232 := Aside0.mk hy232
                  clear hy232
                  have c25b0 := eq_true (of_decide_eq_true (by first | (with_reducible assumption) | assumption) : 0 ≤ ji8)
                  by_cases c26 : ji8 ≤ (t225.length : Int)
                  · rw [if_pos c26] at H
                    have c26b0 := eq_true c26
                    have c26b1 : decide (ji8 ≤ (t225.length : Int)) = true := decide_eq_true c26
                    clear c26
                    obtain ⟨y236, hy236⟩ : ∃ y_ : List (S61), y_ = (t225.take (ji8 : Int).toNat) := ⟨_, rfl⟩
                    replace H : ((impl_PowerOf.f kj9 y232 y236).bind fun bt240 => ((impl_PowerOf.f kj9 (t225.take (ji8 : Int).toNat) (t222.take (ji8 : Int).toNat)).bind fun bt252 => ((spec_PowerOf.f kj9 (t222.take (ji8 : Int).toNat) (t225.take (ji8 : Int).toNat)).bind fun bt264 => (if bt240.2.2 = 0 then (if bt252.2.2 = 0 then (if (!(fEq .f64 bt240.1 bt264.1) || (!(fEq .f64 bt240.2.1 bt264.2.1))) = true then (laws_FnPower.j2 kj9 t222 true) else (if (fNe .f64 bt240.1 bt252.1) = true then (laws_FnPower.j2 kj9 t222 true) else (laws_FnPower.j2 kj9 t222 (fNe .f64 bt240.2.1 (Op.negFloat .f64 bt252.2.1))))) else (laws_FnPower.j2 kj9 t222 true)) else (laws_FnPower.j2 kj9 t222 true))))) = some r := by first | (rw [hy236]; with_reducible exact H) | (have H2_ := (Option.bind_some _ _).symm.trans H; rw [hy236]; with_reducible exact H2_) | (have H2_ := (Option.bind_some _ _).symm.trans H; with_reducible exact H2_) | with_reducible exact H | (rw [hy236]; exact H) | exact H
                    have Ny236 := Aside0.mk hy236
                    clear hy236
                    replace H := Option.bind_eq_some_iff.mp H
                    obtain ⟨⟨t240, t241, t242⟩, A270, H⟩ := H
                    replace H : ((impl_PowerOf.f kj9 (t225.take (ji8 : Int).toNat) (t222.take (ji8 : Int).toNat)).bind fun bt252 => ((spec_PowerOf.f kj9 (t222.take (ji8 : Int).toNat) (t225.take (ji8 : Int).toNat)).bind fun bt264 => (if t242 = 0 then (if bt252.2.2 = 0 then (if (!(fEq .f64 t240 bt264.1) || (!(fEq .f64 t241 bt264.2.1))) = true then (laws_FnPower.j2 kj9 t222 true) else (if (fNe .f64 t240 bt252.1) = true then (laws_FnPower.j2 kj9 t222 true) else (laws_FnPower.j2 kj9 t222 (fNe .f64 t241 (Op.negFloat .f64 bt252.2.1))))) else (laws_FnPower.j2 kj9 t222 true)) else (laws_FnPower.j2 kj9 t222 true)))) = some r := H
                    have A27 := Aside0.mk A270
                    clear A270
                    have c28b0 := eq_true (of_decide_eq_true (by first | (with_reducible assumption) | assumption) : 0 ≤ ji8)
                    have c29b0 := eq_true (of_decide_eq_true (by first | (with_reducible assumption) | assumption) : ji8 ≤ (t225.length : Int))
                    obtain ⟨y244, hy244⟩ : ∃ y_ : List (S61), y_ = (t225.take (ji8 : Int).toNat) := ⟨_, rfl⟩
                    replace H : ((impl_PowerOf.f kj9 y244 (t222.take (ji8 : Int).toNat)).bind fun bt252 => ((spec_PowerOf.f kj9 (t222.take (ji8 : Int).toNat) (t225.take (ji8 : Int).toNat)).bind fun bt264 => (if t242 = 0 then (if bt252.2.2 = 0 then (if (!(fEq .f64 t240 bt264.1) || (!(fEq .f64 t241 bt264.2.1))) = true then (laws_FnPower.j2 kj9 t222 true) else (if (fNe .f64 t240 bt252.1) = true then (laws_FnPower.j2 kj9 t222 true) else (laws_FnPower.j2 kj9 t222 (fNe .f64 t241 (Op.negFloat .f64 bt252.2.1))))) else (laws_FnPower.j2 kj9 t222 true)) else (laws_FnPower.j2 kj9 t222 true)))) = some r := by first | (rw [hy244]; with_reducible exact H) | (have H2_ := (Option.bind_some _ _).symm.trans H; rw [hy244]; with_reducible exact H2_) | (have H2_ := (Option.bind_some _ _).symm.trans H; with_reducible exact H2_) | with_reducible exact H | (rw [hy244]; exact H) | exact H
                    have Ny244 := Aside0.mk hy244
                    clear hy244
                    have c30b0 := eq_true (of_decide_eq_true (by first | (with_reducible assumption) | assumption) : 0 ≤ ji8)
                    have c31b0 := eq_true (of_decide_eq_true (by first | (with_reducible assumption) | assumption) : ji8 ≤ (t222.length : Int))
                    obtain ⟨y248, hy248⟩ : ∃ y_ : List (S61), y_ = (t222.take (ji8 : Int).toNat) := ⟨_, rfl⟩
                    replace H : ((impl_PowerOf.f kj9 y244 y248).bind fun bt252 => ((spec_PowerOf.f kj9 (t222.take (ji8 : Int).toNat) (t225.take (ji8 : Int).toNat)).bind fun bt264 => (if t242 = 0 then (if bt252.2.2 = 0 then (if (!(fEq .f64 t240 bt264.1) || (!(fEq .f64 t241 bt264.2.1))) = true then (laws_FnPower.j2 kj9 t222 true) else (if (fNe .f64 t240 bt252.1) = true then (laws_FnPower.j2 kj9 t222 true) else (laws_FnPower.j2 kj9 t222 (fNe .f64 t241 (Op.negFloat .f64 bt252.2.1))))) else (laws_FnPower.j2 kj9 t222 true)) else (laws_FnPower.j2 kj9 t222 true)))) = some r := by first | (rw [hy248]; with_reducible exact H) | (have H2_ := (Option.bind_some _ _).symm.trans H; rw [hy248]; with_reducible exact H2_) | (have H2_ := (Option.bind_some _ _).symm.trans H; with_reducible exact H2_) | with_reducible exact H | (rw [hy248]; exact H) | exact H
                    have Ny248 := Aside0.mk hy248
                    clear hy248
                    replace H := Option.bind_eq_some_iff.mp H
                    obtain ⟨⟨t252, t253, t254⟩, A320, H⟩ := H
                    replace H : ((spec_PowerOf.f kj9 (t222.take (ji8 : Int).toNat) (t225.take (ji8 : Int).toNat)).bind fun bt264 => (if t242 = 0 then (if t254 = 0 then (if (!(fEq .f64 t240 bt264.1) || (!(fEq .f64 t241 bt264.2.1))) = true then (laws_FnPower.j2 kj9 t222 true) else (if (fNe .f64 t240 t252) = true then (laws_FnPower.j2 kj9 t222 true) else (laws_FnPower.j2 kj9 t222 (fNe .f64 t241 (Op.negFloat .f64 t253))))) else (laws_FnPower.j2 kj9 t222 true)) else (laws_FnPower.j2 kj9 t222 true))) = some r := H
                    have A32 := Aside0.mk A320
                    clear A320
                    have c33b0 := eq_true (of_decide_eq_true (by first | (with_reducible assumption) | assumption) : 0 ≤ ji8)
                    have c34b0 := eq_true (of_decide_eq_true (by first | (with_reducible assumption) | assumption) : ji8 ≤ (t222.length : Int))
                    obtain ⟨y256, hy256⟩ : ∃ y_ : List (S61), y_ = (t222.take (ji8 : Int).toNat) := ⟨_, rfl⟩
                    replace H : ((spec_PowerOf.f kj9 y256 (t225.take (ji8 : Int).toNat)).bind fun bt264 => (if t242 = 0 then (if t254 = 0 then (if (!(fEq .f64 t240 bt264.1) || (!(fEq .f64 t241 bt264.2.1))) = true then (laws_FnPower.j2 kj9 t222 true) else (if (fNe .f64 t240 t252) = true then (laws_FnPower.j2 kj9 t222 true) else (laws_FnPower.j2 kj9 t222 (fNe .f64 t241 (Op.negFloat .f64 t253))))) else (laws_FnPower.j2 kj9 t222 true)) else (laws_FnPower.j2 kj9 t222 true))) = some r := by first | (rw [hy256]; with_reducible exact H) | (have H2_ := (Option.bind_some _ _).symm.trans H; rw [hy256]; with_reducible exact H2_) | (have H2_ := (Option.bind_some _ _).symm.trans H; with_reducible exact H2_) | with_reducible exact H | (rw [hy256]; exact H) | exact H
                    have Ny256 := Aside0.mk hy256
                    clear hy256
                    have c35b0 := eq_true (of_decide_eq_true (by first | (with_reducible assumption) | assumption) : 0 ≤ ji8)
                    have c36b0 := eq_true (of_decide_eq_true (by first | (with_reducible assumption) | assumption) : ji8 ≤ (t225.length : Int))
                    obtain ⟨y260, hy260⟩ : ∃ y_ : List (S61), y_ = (t225.take (ji8 : Int).toNat) := ⟨_, rfl⟩
                    replace H : ((spec_PowerOf.f kj9 y256 y260).bind fun bt264 => (if t242 = 0 then (if t254 = 0 then (if (!(fEq .f64 t240 bt264.1) || (!(fEq .f64 t241 bt264.2.1))) = true then (laws_FnPower.j2 kj9 t222 true) else (if (fNe .f64 t240 t252) = true then (laws_FnPower.j2 kj9 t222 true) else (laws_FnPower.j2 kj9 t222 (fNe .f64 t241 (Op.negFloat .f64 t253))))) else (laws_FnPower.j2 kj9 t222 true)) else (laws_FnPower.j2 kj9 t222 true))) = some r := by first | (rw [hy260]; with_reducible exact H) | (have H2_ := (Option.bind_some _ _).symm.trans H; rw [hy260]; with_reducible exact H2_) | (have H2_ := (Option.bind_some _ _).symm.trans H; with_reducible exact H2_) | with_reducible exact H | (rw [hy260]; exact H) | exact H
                    have Ny260 := Aside0.mk hy260
                    clear hy260
                    replace H := Option.bind_eq_some_iff.mp H
                    obtain ⟨⟨t264, t265, t266⟩, A370, H⟩ := H
                    replace H : (if t242 = 0 then (if t254 = 0 then (if (!(fEq .f64 t240 t264) || (!(fEq .f64 t241 t265))) = true then (laws_FnPower.j2 kj9 t222 true) else (if (fNe .f64 t240 t252) = true then (laws_FnPower.j2 kj9 t222 true) else (laws_FnPower.j2 kj9 t222 (fNe .f64 t241 (Op.negFloat .f64 t253))))) else (laws_FnPower.j2 kj9 t222 true)) else (laws_FnPower.j2 kj9 t222 true)) = some r := H
                    have A37 := Aside0.mk A370
                    clear A370
                    have HC38 := Aside0.mk H
                    clear H
                    try go_wp2
                    have n0_ := Aside0.mk (Kd.R_drew HO_5.out)
                    have n1_ := Aside0.mk (Kd.R_drew HO_6.out)
                    have n2_ := Aside0.mk (blk_drew BK231.out)
                    have n3_ := Aside0.mk (below_drew1 HB.out)
                    clear HO_5
                    clear HO_6
                    clear BK231
                    clear HB
                    have HO_5 := n0_
                    have HO_6 := n1_
                    have BK231 := n2_
                    have HB := n3_
                    clear n0_ n1_ n2_ n3_
                    have q40 : (ji8 : Int) ≤ ((t222.length : Int) : Int) := of_decide_eq_true (by first | (with_reducible assumption) | assumption)
                    obtain ⟨i040, hi040, _, hsz40, _⟩ := info_parts info61
                    have hroom40 : t222.length ≤ co13 := (Kd.R_reads' HO_5.out).2.1
                    have hC40 : Kd.C k61 _ Ao13 t222.length t222 := (Kd.R_reads' HO_5.out).2.2
                    have hcut40 := cut_to (P := Try.prog) 58 61 .i64 Try.underlying58 hi040 Ao13 t222.length co13 ji8 (of_decide_eq_true (by first | (with_reducible assumption) | assumption)) q40 hroom40
                    have hr40 := Kd.C_take (m := (ji8 : Int).toNat) hC40 (by omega)
                    have hy40 : y232.length = (ji8 : Int).toNat := (by rw [Ny232.out, List.length_take]; omega)
                    rw [← Ny232.out] at hr40
                    rw [← hy40] at hcut40
                    have HR235 := Aside0.mk hr40
                    have HC235 := Aside0.mk (show y232.length ≤ co13 from by omega)
                    clear hr40 hC40 hroom40 hi040 hsz40
                    have KY40 := Aside0.mk hy40
                    clear hy40
                    have KL40 := Aside0.mk (show (ji8 : Int).toNat ≤ t222.length from by omega)
                    replace q40 := eq_true q40
                    have q41 : (ji8 : Int) ≤ ((t225.length : Int) : Int) := of_decide_eq_true (by first | (with_reducible assumption) | assumption)
                    obtain ⟨i041, hi041, _, hsz41, _⟩ := info_parts info61
                    have hroom41 : t225.length ≤ co14 := (Kd.R_reads' HO_6.out).2.1
                    have hC41 : Kd.C k61 _ Ao14 t225.length t225 := (Kd.R_reads' HO_6.out).2.2
                    have hcut41 := cut_to (P := Try.prog) 58 61 .i64 Try.underlying58 hi041 Ao14 t225.length co14 ji8 (of_decide_eq_true (by first | (with_reducible assumption) | assumption)) q41 hroom41
                    have hr41 := Kd.C_take (m := (ji8 : Int).toNat) hC41 (by omega)
                    have hy41 : y236.length = (ji8 : Int).toNat := (by rw [Ny236.out, List.length_take]; omega)
                    rw [← Ny236.out] at hr41
                    rw [← hy41] at hcut41
                    have HR239 := Aside0.mk hr41
                    have HC239 := Aside0.mk (show y236.length ≤ co14 from by omega)
                    clear hr41 hC41 hroom41 hi041 hsz41
                    have KY41 := Aside0.mk hy41
                    clear hy41
                    have KL41 := Aside0.mk (show (ji8 : Int).toNat ≤ t225.length from by omega)
                    replace q41 := eq_true q41
                    refine start_ (n := 13) (S := fun w' => True) (ds := []) #[false, false, false, false, false, false, false, false, false, false, false, false, false] (by kernel_rfl) rfl rfl trivial (fun hHeld => ?_); refine with_tabW laws_FnPower.tab9 laws_FnPower.bits9 (fun HT_ HW_ => ?_)
                    generalize wc.drew = w39 at HO_5 HO_6 BK231 HB HR235 HR239 hHeld ⊢
                    refine pure_ (i := 0) (N := some 56) (v := ?_) (a' := ?_) #[true, false, false, false, false, false, false, false, false, false, false, false, false] rfl rfl (any_of HT_.out (by kernel_rfl)) (fun _ _ _ h => h) (Or.inl ⟨by rfl, ?_⟩) ?_ ?_
                    rotate_left
                    · intro w'
                      go_simp
                      with_reducible rfl
                    rotate_left
                    · simp only [Act.put, List.setIfInBounds_toArray, List.set_cons_zero, List.set_cons_succ, i64_w, i32_w]
                      rfl
                    refine pure_ (i := 1) (N := some 57) (v := ?_) (a' := ?_) #[true, true, false, false, false, false, false, false, false, false, false, false, false] rfl rfl (any_of HT_.out (by kernel_rfl)) (fun _ _ _ h => h) (Or.inl ⟨by rfl, ?_⟩) ?_ ?_
                    rotate_left
                    · intro w'
                      go_simp
                      with_reducible rfl
                    rotate_left
                    · simp only [Act.put, List.setIfInBounds_toArray, List.set_cons_zero, List.set_cons_succ, i64_w, i32_w]
                      rfl
                    refine pure_ (i := 2) (N := some 58) (v := ?_) (a' := ?_) #[true, true, true, false, false, false, false, false, false, false, false, false, false] rfl rfl (any_of HT_.out (by kernel_rfl)) (fun _ _ _ h => h) (Or.inl ⟨by rfl, ?_⟩) ?_ ?_
                    rotate_left
                    · intro w'
                      go_simp
                      with_reducible rfl
                    rotate_left
                    · simp only [Act.put, List.setIfInBounds_toArray, List.set_cons_zero, List.set_cons_succ, i64_w, i32_w]
                      rfl
                    refine pure_ (i := 3) (N := some 59) (v := ?_) (a' := ?_) #[true, true, true, true, false, false, false, false, false, false, false, false, false] rfl rfl (any_of HT_.out (by kernel_rfl)) (fun _ _ _ h => h) (Or.inl ⟨by rfl, ?_⟩) ?_ ?_
                    rotate_left
                    · intro w'
                      go_simp
                      with_reducible rfl
                    rotate_left
                    · simp only [Act.put, List.setIfInBounds_toArray, List.set_cons_zero, List.set_cons_succ, i64_w, i32_w]
                      rfl
                    refine pure_ (i := 4) (N := some 60) (v := ?_) (a' := ?_) #[true, true, true, true, true, false, false, false, false, false, false, false, false] rfl rfl (any_of HT_.out (by kernel_rfl)) (fun _ _ _ h => h) (Or.inl ⟨by rfl, ?_⟩) ?_ ?_
                    rotate_left
                    · intro w'
                      go_simp
                      with_reducible rfl
                    rotate_left
                    · simp only [Act.put, List.setIfInBounds_toArray, List.set_cons_zero, List.set_cons_succ, i64_w, i32_w]
                      rfl
                    refine pure_ (i := 5) (N := some 61) (v := ?_) (a' := ?_) #[true, true, true, true, true, true, false, false, false, false, false, false, false] rfl rfl (any_of HT_.out (by kernel_rfl)) (fun _ _ _ h => h) (Or.inl ⟨by rfl, ?_⟩) ?_ ?_
                    rotate_left
                    · intro w'
                      go_simp
                      with_reducible rfl
                    rotate_left
                    · simp only [Act.put, List.setIfInBounds_toArray, List.set_cons_zero, List.set_cons_succ, i64_w, i32_w]
                      rfl
                    refine join_ (σ := Nat) 2 #[true, true, true, true, true, true, true, true, true, true, true, false, false] (fun s_ => [(62, .tuple #[.agg #[.float .f64 t240, .float .f64 t241], .int .i64 t242]), (10, .pointer (some ⟨s_, 0, none⟩)), (55, .tuple #[.agg #[.float .f64 t240, .float .f64 t241], .int .i64 t242]), (63, .agg #[.float .f64 t240, .float .f64 t241]), (64, .int .i64 t242)]) (fun s_ w' => (Kd.R k61 61 w' w.heap.size (fun k_ => some k_ ≠ (.slice Ao14 t225.length co14 : Value).ownBlock ∧ k_ ≠ gb231 ∧ k_ ≠ s_) (.slice Ao13 t222.length co13) t222) ∧ (Kd.R k61 61 w' w.heap.size (fun k_ => some k_ ≠ (.slice Ao13 t222.length co13 : Value).ownBlock ∧ k_ ≠ gb231 ∧ k_ ≠ s_) (.slice Ao14 t225.length co14) t225) ∧ (w'.heap[gb231]? = some (.cells #[.float .f64 t228, .float .f64 t229] 61 (0, 0))) ∧ (w'.heap[s_]? = some (.cells #[.float .f64 0, .float .f64 0] 61 (0, 0))) ∧ (w.heap.size ≤ s_) ∧ (w.heap.size ≤ s_) ∧ (gb231 ≠ s_) ∧ (s_ ≠ gb231) ∧ (Below w.heap.size w w')) ?_ ?_
                    rotate_left
                    · intro hCont
                      refine two_ (i := 6) (j := 10) (Ni := some 62) (Nj := some 10) #[true, true, true, true, true, true, true, false, false, false, false, false, false] #[true, true, true, true, true, true, false, false, false, false, true, false, false] rfl rfl rfl rfl (two_of HT_.out (by kernel_rfl)) (by decide) (by decide) (fun K hK => ?_) (fun K hK => ?_)
                      · skip
                        refine goes_ Try.func24 (by kernel_rfl) rfl #[.slice Ao13 y232.length co13, .slice Ao14 y236.length co14] (by rfl) rfl rfl (by (try simp only [List.map_toArray, List.map_cons, List.map_nil]); first | done | rfl | (simp only [List.length_drop, List.length_take]; rfl) | (simp only [KY40.out, KY41.out]; rfl) | (simp [KY40.out, KY41.out]; done)) ?_
                        with_reducible refine (impl_PowerOf.calls kj9 _ _ y232 _ _ y236 t240 t241 t242 _ ?side1 ?side2 ?side3 ?side4 A27.out).mono ?_
                        (case side1 => repeat (first | exact (by repeat (first | (with_reducible exact HR235.out) | (with_reducible refine Kd.C_alloc ?_ _) | (with_reducible refine Kd.C_drewN ?_ _) | (with_reducible refine Kd.C_drew ?_) | exact HR235.out)) | (with_reducible refine Kd.C_alloc ?_ _) | (with_reducible refine Kd.C_drewN ?_ _) | (with_reducible refine Kd.C_drew ?_)))
                        (case side2 => exact HC235.out)
                        (case side3 => repeat (first | exact (by repeat (first | (with_reducible exact HR239.out) | (with_reducible refine Kd.C_alloc ?_ _) | (with_reducible refine Kd.C_drewN ?_ _) | (with_reducible refine Kd.C_drew ?_) | exact HR239.out)) | (with_reducible refine Kd.C_alloc ?_ _) | (with_reducible refine Kd.C_drewN ?_ _) | (with_reducible refine Kd.C_drew ?_)))
                        (case side4 => exact HC239.out)
                        rintro e w42 ⟨rfl, hb⟩
                        refine ⟨_, rfl, ?_⟩
                        have n0_ := Aside0.mk (Kd.R_below (by (with_reducible repeat (first | apply Kd.R_alloc | apply Kd.R_drewN | apply Kd.R_drew)); exact HO_5.out) hb)
                        have n1_ := Aside0.mk (Kd.R_below (by (with_reducible repeat (first | apply Kd.R_alloc | apply Kd.R_drewN | apply Kd.R_drew)); exact HO_6.out) hb)
                        have n2_ := Aside0.mk (blk_below (g := gb231) (o := .cells #[.float .f64 t228, .float .f64 t229] 61 (0, 0)) (by (with_reducible repeat (first | refine blk_drewN ?_ _ | refine blk_drew ?_ | refine blk_alloc ?_ _)); exact BK231.out) hb)
                        have n3_ := Aside0.mk (Kd.C_below (by repeat (first | (with_reducible exact HR235.out) | (with_reducible refine Kd.C_alloc ?_ _) | (with_reducible refine Kd.C_drewN ?_ _) | (with_reducible refine Kd.C_drew ?_) | exact HR235.out)) hb)
                        have n4_ := Aside0.mk (Kd.C_below (by repeat (first | (with_reducible exact HR239.out) | (with_reducible refine Kd.C_alloc ?_ _) | (with_reducible refine Kd.C_drewN ?_ _) | (with_reducible refine Kd.C_drew ?_) | exact HR239.out)) hb)
                        have n5_ := Aside0.mk (below_step (by repeat (first | (with_reducible first | exact HB.out | apply below_alloc | apply pw_below_drewN | apply below_drew1 | refine below_set ?_ GE231.out) | exact HB.out)) hb)
                        clear HO_5
                        clear HO_6
                        clear BK231
                        clear HR235
                        clear HR239
                        clear HB
                        have HO_5 := n0_
                        have HO_6 := n1_
                        have BK231 := n2_
                        have HR235 := n3_
                        have HR239 := n4_
                        have HB := n5_
                        clear n0_ n1_ n2_ n3_ n4_ n5_
                        (try clear hb)
                        (try clear hb2)
                        (try clear hk)
                        (try clear hi)
                        refine hK.out _ _ trivial (fun hHeld => ?_)
                        clear hK K
                        refine norm_ (a' := ?_) ?_ ?_
                        rotate_left
                        · show Act.put _ (some 62) _ = _
                          simp only [Act.put, List.setIfInBounds_toArray, List.set_cons_zero, List.set_cons_succ, i64_w, i32_w]
                          rfl
                        refine pure_ (i := 7) (N := some 55) (v := ?_) (a' := ?_) #[true, true, true, true, true, true, true, true, false, false, false, false, false] rfl rfl (any_of HT_.out (by kernel_rfl)) (fun _ _ _ h => h) (Or.inl ⟨by rfl, ?_⟩) ?_ ?_
                        rotate_left
                        · intro w'
                          go_simp
                          with_reducible rfl
                        rotate_left
                        · simp only [Act.put, List.setIfInBounds_toArray, List.set_cons_zero, List.set_cons_succ, i64_w, i32_w]
                          rfl
                        refine pure_ (i := 8) (N := some 63) (v := ?_) (a' := ?_) #[true, true, true, true, true, true, true, true, true, false, false, false, false] rfl rfl (any_of HT_.out (by kernel_rfl)) (fun _ _ _ h => h) (Or.inl ⟨by rfl, ?_⟩) ?_ ?_
                        rotate_left
                        · intro w'
                          go_simp
                          with_reducible rfl
                        rotate_left
                        · simp only [Act.put, List.setIfInBounds_toArray, List.set_cons_zero, List.set_cons_succ, i64_w, i32_w]
                          rfl
                        refine pure_ (i := 9) (N := some 64) (v := ?_) (a' := ?_) #[true, true, true, true, true, true, true, true, true, true, false, false, false] rfl rfl (any_of HT_.out (by kernel_rfl)) (fun _ _ _ h => h) (Or.inl ⟨by rfl, ?_⟩) ?_ ?_
                        rotate_left
                        · intro w'
                          go_simp
                          with_reducible rfl
                        rotate_left
                        · simp only [Act.put, List.setIfInBounds_toArray, List.set_cons_zero, List.set_cons_succ, i64_w, i32_w]
                          rfl
                        refine one_ (i := 10) (N := some 10) #[true, true, true, true, true, true, true, true, true, true, true, false, false] rfl rfl (one_of HT_.out (by kernel_rfl)) (by decide) (fun K hK => ?_)
                        refine box_step ?hg (N := 10) ?hd (cs := #[.float .f64 0, .float .f64 0]) (t := 61) ?hr ?_; (case hd => rfl); (case hg => rfl); (case hr => first | (go_simp; done) | (go_simp; rfl))
                        intro gb243 hg w43 hbox hb
                        have n0_ := Aside0.mk (Kd.R_below (Kd.R_elderB (by (with_reducible repeat (first | apply Kd.R_alloc | apply Kd.R_drewN | apply Kd.R_drew)); exact HO_5.out) gb243 (Nat.le_of_eq hg.symm)) hb)
                        have n1_ := Aside0.mk (Kd.R_below (Kd.R_elderB (by (with_reducible repeat (first | apply Kd.R_alloc | apply Kd.R_drewN | apply Kd.R_drew)); exact HO_6.out) gb243 (Nat.le_of_eq hg.symm)) hb)
                        have n2_ := Aside0.mk (blk_below (g := gb231) (o := .cells #[.float .f64 t228, .float .f64 t229] 61 (0, 0)) (by (with_reducible repeat (first | refine blk_drewN ?_ _ | refine blk_drew ?_ | refine blk_alloc ?_ _)); exact BK231.out) hb)
                        have n3_ := Aside0.mk (Kd.C_below (by repeat (first | (with_reducible exact HR235.out) | (with_reducible refine Kd.C_alloc ?_ _) | (with_reducible refine Kd.C_drewN ?_ _) | (with_reducible refine Kd.C_drew ?_) | exact HR235.out)) hb)
                        have n4_ := Aside0.mk (Kd.C_below (by repeat (first | (with_reducible exact HR239.out) | (with_reducible refine Kd.C_alloc ?_ _) | (with_reducible refine Kd.C_drewN ?_ _) | (with_reducible refine Kd.C_drew ?_) | exact HR239.out)) hb)
                        have n5_ := Aside0.mk (below_step (by repeat (first | (with_reducible first | exact HB.out | apply below_alloc | apply pw_below_drewN | apply below_drew1 | refine below_set ?_ GE231.out) | exact HB.out)) hb)
                        have n6_ := Aside0.mk (hbox)
                        have n7_ := Aside0.mk ((by rw [hg]; exact (below_size (by repeat (first | (with_reducible first | exact HB.out | apply below_alloc | apply pw_below_drewN | apply below_drew1 | refine below_set ?_ GE231.out) | exact HB.out))) : w.heap.size ≤ gb243))
                        have n8_ := Aside0.mk ((by rw [hg]; exact (below_size (by repeat (first | (with_reducible first | exact HB.out | apply below_alloc | apply pw_below_drewN | apply below_drew1 | refine below_set ?_ GE231.out) | exact HB.out))) : w.heap.size ≤ gb243))
                        have n9_ := Aside0.mk ((by rw [hg]; exact Nat.ne_of_lt (blk_lt (g := gb231) (o := .cells #[.float .f64 t228, .float .f64 t229] 61 (0, 0)) (by (with_reducible repeat (first | refine blk_drewN ?_ _ | refine blk_drew ?_ | refine blk_alloc ?_ _)); exact BK231.out)) : gb231 ≠ gb243))
                        have n10_ := Aside0.mk ((by rw [hg]; exact Nat.ne_of_gt (blk_lt (g := gb231) (o := .cells #[.float .f64 t228, .float .f64 t229] 61 (0, 0)) (by (with_reducible repeat (first | refine blk_drewN ?_ _ | refine blk_drew ?_ | refine blk_alloc ?_ _)); exact BK231.out)) : gb243 ≠ gb231))
                        clear HO_5
                        clear HO_6
                        clear BK231
                        clear HR235
                        clear HR239
                        clear HB
                        have HO_5 := n0_
                        have HO_6 := n1_
                        have BK231 := n2_
                        have HR235 := n3_
                        have HR239 := n4_
                        have HB := n5_
                        have BK243 := n6_
                        have GW243 := n7_
                        have GE243 := n8_
                        have NB231_243 := n9_
                        have NB243_231 := n10_
                        clear n0_ n1_ n2_ n3_ n4_ n5_ n6_ n7_ n8_ n9_ n10_
                        clear hb hbox hg
                        refine hK.out _ _ trivial (fun hHeld => ?_)
                        clear hK K
                        refine norm_ (a' := ?_) ?_ ?_
                        rotate_left
                        · show Act.put _ (some 10) _ = _
                          simp only [Act.put, List.setIfInBounds_toArray, List.set_cons_zero, List.set_cons_succ, i64_w, i32_w]
                          rfl
                        exact norm_ (by simp only [putAll, Act.put, List.setIfInBounds_toArray, List.set_cons_zero, List.set_cons_succ]) (hCont (gb243) _ ⟨(by (with_reducible repeat (first | apply Kd.R_alloc | apply Kd.R_drewN | apply Kd.R_drew)); exact Kd.R_mono HO_5.out (fun _ hk => ⟨hk.1.1, ⟨hk.1.2, hk.2⟩⟩)), (by (with_reducible repeat (first | apply Kd.R_alloc | apply Kd.R_drewN | apply Kd.R_drew)); exact Kd.R_mono HO_6.out (fun _ hk => ⟨hk.1.1, ⟨hk.1.2, hk.2⟩⟩)), (by (with_reducible repeat (first | refine blk_drewN ?_ _ | refine blk_drew ?_ | refine blk_alloc ?_ _)); exact BK231.out), (by (with_reducible repeat (first | refine blk_drewN ?_ _ | refine blk_drew ?_ | refine blk_alloc ?_ _)); exact BK243.out), GW243.out, GE243.out, NB231_243.out, NB243_231.out, (by repeat (first | (with_reducible first | exact HB.out | apply below_alloc | apply pw_below_drewN | apply below_drew1 | refine below_set ?_ GE231.out | refine below_set ?_ GE243.out) | exact HB.out))⟩)
                      · skip
                        refine box_step ?hg (N := 10) ?hd (cs := #[.float .f64 0, .float .f64 0]) (t := 61) ?hr ?_; (case hd => rfl); (case hg => rfl); (case hr => first | (go_simp; done) | (go_simp; rfl))
                        intro gb243 hg w42 hbox hb
                        have n0_ := Aside0.mk (Kd.R_below (Kd.R_elderB (by (with_reducible repeat (first | apply Kd.R_alloc | apply Kd.R_drewN | apply Kd.R_drew)); exact HO_5.out) gb243 (Nat.le_of_eq hg.symm)) hb)
                        have n1_ := Aside0.mk (Kd.R_below (Kd.R_elderB (by (with_reducible repeat (first | apply Kd.R_alloc | apply Kd.R_drewN | apply Kd.R_drew)); exact HO_6.out) gb243 (Nat.le_of_eq hg.symm)) hb)
                        have n2_ := Aside0.mk (blk_below (g := gb231) (o := .cells #[.float .f64 t228, .float .f64 t229] 61 (0, 0)) (by (with_reducible repeat (first | refine blk_drewN ?_ _ | refine blk_drew ?_ | refine blk_alloc ?_ _)); exact BK231.out) hb)
                        have n3_ := Aside0.mk (Kd.C_below (by repeat (first | (with_reducible exact HR235.out) | (with_reducible refine Kd.C_alloc ?_ _) | (with_reducible refine Kd.C_drewN ?_ _) | (with_reducible refine Kd.C_drew ?_) | exact HR235.out)) hb)
                        have n4_ := Aside0.mk (Kd.C_below (by repeat (first | (with_reducible exact HR239.out) | (with_reducible refine Kd.C_alloc ?_ _) | (with_reducible refine Kd.C_drewN ?_ _) | (with_reducible refine Kd.C_drew ?_) | exact HR239.out)) hb)
                        have n5_ := Aside0.mk (below_step (by repeat (first | (with_reducible first | exact HB.out | apply below_alloc | apply pw_below_drewN | apply below_drew1 | refine below_set ?_ GE231.out) | exact HB.out)) hb)
                        have n6_ := Aside0.mk (hbox)
                        have n7_ := Aside0.mk ((by rw [hg]; exact (below_size (by repeat (first | (with_reducible first | exact HB.out | apply below_alloc | apply pw_below_drewN | apply below_drew1 | refine below_set ?_ GE231.out) | exact HB.out))) : w.heap.size ≤ gb243))
                        have n8_ := Aside0.mk ((by rw [hg]; exact (below_size (by repeat (first | (with_reducible first | exact HB.out | apply below_alloc | apply pw_below_drewN | apply below_drew1 | refine below_set ?_ GE231.out) | exact HB.out))) : w.heap.size ≤ gb243))
                        have n9_ := Aside0.mk ((by rw [hg]; exact Nat.ne_of_lt (blk_lt (g := gb231) (o := .cells #[.float .f64 t228, .float .f64 t229] 61 (0, 0)) (by (with_reducible repeat (first | refine blk_drewN ?_ _ | refine blk_drew ?_ | refine blk_alloc ?_ _)); exact BK231.out)) : gb231 ≠ gb243))
                        have n10_ := Aside0.mk ((by rw [hg]; exact Nat.ne_of_gt (blk_lt (g := gb231) (o := .cells #[.float .f64 t228, .float .f64 t229] 61 (0, 0)) (by (with_reducible repeat (first | refine blk_drewN ?_ _ | refine blk_drew ?_ | refine blk_alloc ?_ _)); exact BK231.out)) : gb243 ≠ gb231))
                        clear HO_5
                        clear HO_6
                        clear BK231
                        clear HR235
                        clear HR239
                        clear HB
                        have HO_5 := n0_
                        have HO_6 := n1_
                        have BK231 := n2_
                        have HR235 := n3_
                        have HR239 := n4_
                        have HB := n5_
                        have BK243 := n6_
                        have GW243 := n7_
                        have GE243 := n8_
                        have NB231_243 := n9_
                        have NB243_231 := n10_
                        clear n0_ n1_ n2_ n3_ n4_ n5_ n6_ n7_ n8_ n9_ n10_
                        clear hb hbox hg
                        refine hK.out _ _ trivial (fun hHeld => ?_)
                        clear hK K
                        refine norm_ (a' := ?_) ?_ ?_
                        rotate_left
                        · show Act.put _ (some 10) _ = _
                          simp only [Act.put, List.setIfInBounds_toArray, List.set_cons_zero, List.set_cons_succ, i64_w, i32_w]
                          rfl
                        refine one_ (i := 6) (N := some 62) #[true, true, true, true, true, true, true, false, false, false, true, false, false] rfl rfl (one_of HT_.out (by kernel_rfl)) (by decide) (fun K hK => ?_)
                        refine goes_ Try.func24 (by kernel_rfl) rfl #[.slice Ao13 y232.length co13, .slice Ao14 y236.length co14] (by rfl) rfl rfl (by (try simp only [List.map_toArray, List.map_cons, List.map_nil]); first | done | rfl | (simp only [List.length_drop, List.length_take]; rfl) | (simp only [KY40.out, KY41.out]; rfl) | (simp [KY40.out, KY41.out]; done)) ?_
                        with_reducible refine (impl_PowerOf.calls kj9 _ _ y232 _ _ y236 t240 t241 t242 _ ?side1 ?side2 ?side3 ?side4 A27.out).mono ?_
                        (case side1 => repeat (first | exact (by repeat (first | (with_reducible exact HR235.out) | (with_reducible refine Kd.C_alloc ?_ _) | (with_reducible refine Kd.C_drewN ?_ _) | (with_reducible refine Kd.C_drew ?_) | exact HR235.out)) | (with_reducible refine Kd.C_alloc ?_ _) | (with_reducible refine Kd.C_drewN ?_ _) | (with_reducible refine Kd.C_drew ?_)))
                        (case side2 => exact HC235.out)
                        (case side3 => repeat (first | exact (by repeat (first | (with_reducible exact HR239.out) | (with_reducible refine Kd.C_alloc ?_ _) | (with_reducible refine Kd.C_drewN ?_ _) | (with_reducible refine Kd.C_drew ?_) | exact HR239.out)) | (with_reducible refine Kd.C_alloc ?_ _) | (with_reducible refine Kd.C_drewN ?_ _) | (with_reducible refine Kd.C_drew ?_)))
                        (case side4 => exact HC239.out)
                        rintro e w43 ⟨rfl, hb⟩
                        refine ⟨_, rfl, ?_⟩
                        have n0_ := Aside0.mk (Kd.R_below (by (with_reducible repeat (first | apply Kd.R_alloc | apply Kd.R_drewN | apply Kd.R_drew)); exact HO_5.out) hb)
                        have n1_ := Aside0.mk (Kd.R_below (by (with_reducible repeat (first | apply Kd.R_alloc | apply Kd.R_drewN | apply Kd.R_drew)); exact HO_6.out) hb)
                        have n2_ := Aside0.mk (blk_below (g := gb231) (o := .cells #[.float .f64 t228, .float .f64 t229] 61 (0, 0)) (by (with_reducible repeat (first | refine blk_drewN ?_ _ | refine blk_drew ?_ | refine blk_alloc ?_ _)); exact BK231.out) hb)
                        have n3_ := Aside0.mk (Kd.C_below (by repeat (first | (with_reducible exact HR235.out) | (with_reducible refine Kd.C_alloc ?_ _) | (with_reducible refine Kd.C_drewN ?_ _) | (with_reducible refine Kd.C_drew ?_) | exact HR235.out)) hb)
                        have n4_ := Aside0.mk (Kd.C_below (by repeat (first | (with_reducible exact HR239.out) | (with_reducible refine Kd.C_alloc ?_ _) | (with_reducible refine Kd.C_drewN ?_ _) | (with_reducible refine Kd.C_drew ?_) | exact HR239.out)) hb)
                        have n5_ := Aside0.mk (blk_below (g := gb243) (o := .cells #[.float .f64 0, .float .f64 0] 61 (0, 0)) (by (with_reducible repeat (first | refine blk_drewN ?_ _ | refine blk_drew ?_ | refine blk_alloc ?_ _)); exact BK243.out) hb)
                        have n6_ := Aside0.mk (below_step (by repeat (first | (with_reducible first | exact HB.out | apply below_alloc | apply pw_below_drewN | apply below_drew1 | refine below_set ?_ GE231.out | refine below_set ?_ GE243.out) | exact HB.out)) hb)
                        clear HO_5
                        clear HO_6
                        clear BK231
                        clear HR235
                        clear HR239
                        clear BK243
                        clear HB
                        have HO_5 := n0_
                        have HO_6 := n1_
                        have BK231 := n2_
                        have HR235 := n3_
                        have HR239 := n4_
                        have BK243 := n5_
                        have HB := n6_
                        clear n0_ n1_ n2_ n3_ n4_ n5_ n6_
                        (try clear hb)
                        (try clear hb2)
                        (try clear hk)
                        (try clear hi)
                        refine hK.out _ _ trivial (fun hHeld => ?_)
                        clear hK K
                        refine norm_ (a' := ?_) ?_ ?_
                        rotate_left
                        · show Act.put _ (some 62) _ = _
                          simp only [Act.put, List.setIfInBounds_toArray, List.set_cons_zero, List.set_cons_succ, i64_w, i32_w]
                          rfl
                        refine pure_ (i := 7) (N := some 55) (v := ?_) (a' := ?_) #[true, true, true, true, true, true, true, true, false, false, true, false, false] rfl rfl (any_of HT_.out (by kernel_rfl)) (fun _ _ _ h => h) (Or.inl ⟨by rfl, ?_⟩) ?_ ?_
                        rotate_left
                        · intro w'
                          go_simp
                          with_reducible rfl
                        rotate_left
                        · simp only [Act.put, List.setIfInBounds_toArray, List.set_cons_zero, List.set_cons_succ, i64_w, i32_w]
                          rfl
                        refine pure_ (i := 8) (N := some 63) (v := ?_) (a' := ?_) #[true, true, true, true, true, true, true, true, true, false, true, false, false] rfl rfl (any_of HT_.out (by kernel_rfl)) (fun _ _ _ h => h) (Or.inl ⟨by rfl, ?_⟩) ?_ ?_
                        rotate_left
                        · intro w'
                          go_simp
                          with_reducible rfl
                        rotate_left
                        · simp only [Act.put, List.setIfInBounds_toArray, List.set_cons_zero, List.set_cons_succ, i64_w, i32_w]
                          rfl
                        refine pure_ (i := 9) (N := some 64) (v := ?_) (a' := ?_) #[true, true, true, true, true, true, true, true, true, true, true, false, false] rfl rfl (any_of HT_.out (by kernel_rfl)) (fun _ _ _ h => h) (Or.inl ⟨by rfl, ?_⟩) ?_ ?_
                        rotate_left
                        · intro w'
                          go_simp
                          with_reducible rfl
                        rotate_left
                        · simp only [Act.put, List.setIfInBounds_toArray, List.set_cons_zero, List.set_cons_succ, i64_w, i32_w]
                          rfl
                        exact norm_ (by simp only [putAll, Act.put, List.setIfInBounds_toArray, List.set_cons_zero, List.set_cons_succ]) (hCont (gb243) _ ⟨(by (with_reducible repeat (first | apply Kd.R_alloc | apply Kd.R_drewN | apply Kd.R_drew)); exact Kd.R_mono HO_5.out (fun _ hk => ⟨hk.1.1, ⟨hk.1.2, hk.2⟩⟩)), (by (with_reducible repeat (first | apply Kd.R_alloc | apply Kd.R_drewN | apply Kd.R_drew)); exact Kd.R_mono HO_6.out (fun _ hk => ⟨hk.1.1, ⟨hk.1.2, hk.2⟩⟩)), (by (with_reducible repeat (first | refine blk_drewN ?_ _ | refine blk_drew ?_ | refine blk_alloc ?_ _)); exact BK231.out), (by (with_reducible repeat (first | refine blk_drewN ?_ _ | refine blk_drew ?_ | refine blk_alloc ?_ _)); exact BK243.out), GW243.out, GE243.out, NB231_243.out, NB243_231.out, (by repeat (first | (with_reducible first | exact HB.out | apply below_alloc | apply pw_below_drewN | apply below_drew1 | refine below_set ?_ GE231.out | refine below_set ?_ GE243.out) | exact HB.out))⟩)
                    rintro gb243 w44 ⟨h0_, h1_, h2_, h3_, h4_, h5_, h6_, h7_, h8_⟩
                    have n0_ : Aside0 (Kd.R k61 61 w44 w.heap.size (fun k_ => some k_ ≠ (.slice Ao14 t225.length co14 : Value).ownBlock ∧ k_ ≠ gb231 ∧ k_ ≠ gb243) (.slice Ao13 t222.length co13) t222) := ⟨h0_⟩
                    have n1_ : Aside0 (Kd.R k61 61 w44 w.heap.size (fun k_ => some k_ ≠ (.slice Ao13 t222.length co13 : Value).ownBlock ∧ k_ ≠ gb231 ∧ k_ ≠ gb243) (.slice Ao14 t225.length co14) t225) := ⟨h1_⟩
                    have n2_ : Aside0 (w44.heap[gb231]? = some (.cells #[.float .f64 t228, .float .f64 t229] 61 (0, 0))) := ⟨h2_⟩
                    have n3_ : Aside0 (w44.heap[gb243]? = some (.cells #[.float .f64 0, .float .f64 0] 61 (0, 0))) := ⟨h3_⟩
                    have n4_ : Aside0 (w.heap.size ≤ gb243) := ⟨h4_⟩
                    have n5_ : Aside0 (w.heap.size ≤ gb243) := ⟨h5_⟩
                    have n6_ : Aside0 (gb231 ≠ gb243) := ⟨h6_⟩
                    have n7_ : Aside0 (gb243 ≠ gb231) := ⟨h7_⟩
                    have n8_ : Aside0 (Below w.heap.size w w44) := ⟨h8_⟩
                    clear HO_5
                    clear HO_6
                    clear BK231
                    clear HB
                    clear h0_ h1_ h2_ h3_ h4_ h5_ h6_ h7_ h8_
                    have HO_5 := n0_
                    have HO_6 := n1_
                    have BK231 := n2_
                    have BK243 := n3_
                    have GW243 := n4_
                    have GE243 := n5_
                    have NB231_243 := n6_
                    have NB243_231 := n7_
                    have HB := n8_
                    clear n0_ n1_ n2_ n3_ n4_ n5_ n6_ n7_ n8_
                    have hHeld := trivial
                    refine norm_ (a' := ?_) ?_ ?_
                    rotate_left
                    · simp only [putAll, Act.put, List.setIfInBounds_toArray, List.set_cons_zero, List.set_cons_succ]
                      rfl
                    refine one_ (i := 11) (N := none) #[true, true, true, true, true, true, true, true, true, true, true, true, false] rfl rfl (one_of HT_.out (by kernel_rfl)) (by decide) (fun K hK => ?_)
                    have hs45 : w44.cell? ⟨gb243, 0, none⟩ = some (.float .f64 0) := (blk_cell BK243.out 0).trans rfl
                    have hfs45 := blk_frozen BK243.out 0
                    have hns45_0 := NB231_243.out
                    have hms45_0 := NB243_231.out
                    have hs46 : w44.cell? ⟨gb243, 1, none⟩ = some (.float .f64 0) := (blk_cell BK243.out 1).trans rfl
                    have hfs46 := blk_frozen BK243.out 1
                    have hns46_0 := NB231_243.out
                    have hms46_0 := NB243_231.out
                    refine skip_ (w1 := ?_) (by rfl) rfl ?_ ?_
                    rotate_left
                    · go_simp
                      rfl
                    refine hK.out _ _ trivial (fun hHeld => ?_)
                    clear hK K
                    refine pure_ (i := 12) (N := some 11) (v := ?_) (a' := ?_) #[true, true, true, true, true, true, true, true, true, true, true, true, true] rfl rfl (any_of HT_.out (by kernel_rfl)) (fun _ _ _ h => h) (Or.inl ⟨by rfl, ?_⟩) ?_ ?_
                    rotate_left
                    · intro w'
                      go_simp
                      with_reducible rfl
                    rotate_left
                    · simp only [Act.put, List.setIfInBounds_toArray, List.set_cons_zero, List.set_cons_succ, i64_w, i32_w]
                      rfl
                    refine done_ (done_of HT_.out (by kernel_rfl)) ?_
                    try go_wp2
                    have n0_ : Aside0 (Kd.R k61 61 ((w44.setCell ⟨gb243, 0, none⟩ (.float .f64 t240)).setCell ⟨gb243, 1, none⟩ (.float .f64 t241)) w.heap.size (fun k_ => some k_ ≠ (.slice Ao14 t225.length co14 : Value).ownBlock ∧ k_ ≠ gb231 ∧ k_ ≠ gb243) (.slice Ao13 t222.length co13) t222) := ⟨by (with_reducible repeat (first | apply Kd.R_alloc | apply Kd.R_drewN | apply Kd.R_drew)); exact Kd.R_mono (Kd.R_far (p := ⟨gb243, 1, none⟩) (Kd.R_far (p := ⟨gb243, 0, none⟩) (Kd.R_mono HO_5.out (fun k_ hk => (⟨hk, hk.2.2⟩ : _ ∧ k_ ≠ gb243))) (fun _ hk => hk.2) (.float .f64 t240)) (fun _ hk => hk.2) (.float .f64 t241)) (fun _ hk => ⟨hk.1.1, ⟨hk.1.2.1, hk.1.2.2⟩⟩)⟩
                    have n1_ : Aside0 (Kd.R k61 61 ((w44.setCell ⟨gb243, 0, none⟩ (.float .f64 t240)).setCell ⟨gb243, 1, none⟩ (.float .f64 t241)) w.heap.size (fun k_ => some k_ ≠ (.slice Ao13 t222.length co13 : Value).ownBlock ∧ k_ ≠ gb231 ∧ k_ ≠ gb243) (.slice Ao14 t225.length co14) t225) := ⟨by (with_reducible repeat (first | apply Kd.R_alloc | apply Kd.R_drewN | apply Kd.R_drew)); exact Kd.R_mono (Kd.R_far (p := ⟨gb243, 1, none⟩) (Kd.R_far (p := ⟨gb243, 0, none⟩) (Kd.R_mono HO_6.out (fun k_ hk => (⟨hk, hk.2.2⟩ : _ ∧ k_ ≠ gb243))) (fun _ hk => hk.2) (.float .f64 t240)) (fun _ hk => hk.2) (.float .f64 t241)) (fun _ hk => ⟨hk.1.1, ⟨hk.1.2.1, hk.1.2.2⟩⟩)⟩
                    have n2_ : Aside0 (((w44.setCell ⟨gb243, 0, none⟩ (.float .f64 t240)).setCell ⟨gb243, 1, none⟩ (.float .f64 t241)).heap[gb231]? = some (.cells #[.float .f64 t228, .float .f64 t229] 61 (0, 0))) := ⟨by (with_reducible repeat (first | refine blk_drewN ?_ _ | refine blk_drew ?_ | refine blk_alloc ?_ _)); refine blk_far ?_ NB231_243.out _; (with_reducible repeat (first | refine blk_drewN ?_ _ | refine blk_drew ?_ | refine blk_alloc ?_ _)); refine blk_far ?_ NB231_243.out _; (with_reducible repeat (first | refine blk_drewN ?_ _ | refine blk_drew ?_ | refine blk_alloc ?_ _)); exact BK231.out⟩
                    have n3_ : Aside0 (((w44.setCell ⟨gb243, 0, none⟩ (.float .f64 t240)).setCell ⟨gb243, 1, none⟩ (.float .f64 t241)).heap[gb243]? = some (.cells #[.float .f64 t240, .float .f64 t241] 61 (0, 0))) := ⟨by (with_reducible repeat (first | refine blk_drewN ?_ _ | refine blk_drew ?_ | refine blk_alloc ?_ _)); refine blk_put (cs := #[.float .f64 t240, .float .f64 0]) ?_ 1 _ rfl; (with_reducible repeat (first | refine blk_drewN ?_ _ | refine blk_drew ?_ | refine blk_alloc ?_ _)); refine blk_put (cs := #[.float .f64 0, .float .f64 0]) ?_ 0 _ rfl; (with_reducible repeat (first | refine blk_drewN ?_ _ | refine blk_drew ?_ | refine blk_alloc ?_ _)); exact BK243.out⟩
                    have n4_ : Aside0 (Below w.heap.size w ((w44.setCell ⟨gb243, 0, none⟩ (.float .f64 t240)).setCell ⟨gb243, 1, none⟩ (.float .f64 t241))) := ⟨by repeat (first | (with_reducible first | exact HB.out | apply below_alloc | apply pw_below_drewN | apply below_drew1 | refine below_set ?_ GE231.out | refine below_set ?_ GE243.out) | exact HB.out)⟩
                    (try clear HO_5)
                    (try clear HO_6)
                    (try clear BK231)
                    (try clear BK243)
                    (try clear HB)
                    generalize ((w44.setCell ⟨gb243, 0, none⟩ (.float .f64 t240)).setCell ⟨gb243, 1, none⟩ (.float .f64 t241)) = w47 at n0_ n1_ n2_ n3_ n4_ ⊢
                    have HO_5 := n0_
                    have HO_6 := n1_
                    have BK231 := n2_
                    have BK243 := n3_
                    have HB := n4_
                    clear n0_ n1_ n2_ n3_ n4_
                    have n0_ := Aside0.mk (Kd.R_drew HO_5.out)
                    have n1_ := Aside0.mk (Kd.R_drew HO_6.out)
                    have n2_ := Aside0.mk (blk_drew BK231.out)
                    have n3_ := Aside0.mk (blk_drew BK243.out)
                    have n4_ := Aside0.mk (below_drew1 HB.out)
                    clear HO_5
                    clear HO_6
                    clear BK231
                    clear BK243
                    clear HB
                    have HO_5 := n0_
                    have HO_6 := n1_
                    have BK231 := n2_
                    have BK243 := n3_
                    have HB := n4_
                    clear n0_ n1_ n2_ n3_ n4_
                    have q49 : (ji8 : Int) ≤ ((t225.length : Int) : Int) := of_decide_eq_true (by first | (with_reducible assumption) | assumption)
                    obtain ⟨i049, hi049, _, hsz49, _⟩ := info_parts info61
                    have hroom49 : t225.length ≤ co14 := (Kd.R_reads' HO_6.out).2.1
                    have hC49 : Kd.C k61 _ Ao14 t225.length t225 := (Kd.R_reads' HO_6.out).2.2
                    have hcut49 := cut_to (P := Try.prog) 58 61 .i64 Try.underlying58 hi049 Ao14 t225.length co14 ji8 (of_decide_eq_true (by first | (with_reducible assumption) | assumption)) q49 hroom49
                    have hr49 := Kd.C_take (m := (ji8 : Int).toNat) hC49 (by omega)
                    have hy49 : y244.length = (ji8 : Int).toNat := (by rw [Ny244.out, List.length_take]; omega)
                    rw [← Ny244.out] at hr49
                    rw [← hy49] at hcut49
                    have HR247 := Aside0.mk hr49
                    have HC247 := Aside0.mk (show y244.length ≤ co14 from by omega)
                    clear hr49 hC49 hroom49 hi049 hsz49
                    have KY49 := Aside0.mk hy49
                    clear hy49
                    have KL49 := Aside0.mk (show (ji8 : Int).toNat ≤ t225.length from by omega)
                    replace q49 := eq_true q49
                    have q50 : (ji8 : Int) ≤ ((t222.length : Int) : Int) := of_decide_eq_true (by first | (with_reducible assumption) | assumption)
                    obtain ⟨i050, hi050, _, hsz50, _⟩ := info_parts info61
                    have hroom50 : t222.length ≤ co13 := (Kd.R_reads' HO_5.out).2.1
                    have hC50 : Kd.C k61 _ Ao13 t222.length t222 := (Kd.R_reads' HO_5.out).2.2
                    have hcut50 := cut_to (P := Try.prog) 58 61 .i64 Try.underlying58 hi050 Ao13 t222.length co13 ji8 (of_decide_eq_true (by first | (with_reducible assumption) | assumption)) q50 hroom50
                    have hr50 := Kd.C_take (m := (ji8 : Int).toNat) hC50 (by omega)
                    have hy50 : y248.length = (ji8 : Int).toNat := (by rw [Ny248.out, List.length_take]; omega)
                    rw [← Ny248.out] at hr50
                    rw [← hy50] at hcut50
                    have HR251 := Aside0.mk hr50
                    have HC251 := Aside0.mk (show y248.length ≤ co13 from by omega)
                    clear hr50 hC50 hroom50 hi050 hsz50
                    have KY50 := Aside0.mk hy50
                    clear hy50
                    have KL50 := Aside0.mk (show (ji8 : Int).toNat ≤ t222.length from by omega)
                    replace q50 := eq_true q50
                    refine start_ (n := 13) (S := fun w' => True) (ds := []) #[false, false, false, false, false, false, false, false, false, false, false, false, false] (by kernel_rfl) rfl rfl trivial (fun hHeld => ?_); refine with_tabW laws_FnPower.tab10 laws_FnPower.bits10 (fun HT_ HW_ => ?_)
                    generalize w47.drew = w48 at HO_5 HO_6 BK231 BK243 HB HR247 HR251 hHeld ⊢
                    refine pure_ (i := 0) (N := some 66) (v := ?_) (a' := ?_) #[true, false, false, false, false, false, false, false, false, false, false, false, false] rfl rfl (any_of HT_.out (by kernel_rfl)) (fun _ _ _ h => h) (Or.inl ⟨by rfl, ?_⟩) ?_ ?_
                    rotate_left
                    · intro w'
                      go_simp
                      with_reducible rfl
                    rotate_left
                    · simp only [Act.put, List.setIfInBounds_toArray, List.set_cons_zero, List.set_cons_succ, i64_w, i32_w]
                      rfl
                    refine pure_ (i := 1) (N := some 67) (v := ?_) (a' := ?_) #[true, true, false, false, false, false, false, false, false, false, false, false, false] rfl rfl (any_of HT_.out (by kernel_rfl)) (fun _ _ _ h => h) (Or.inl ⟨by rfl, ?_⟩) ?_ ?_
                    rotate_left
                    · intro w'
                      go_simp
                      with_reducible rfl
                    rotate_left
                    · simp only [Act.put, List.setIfInBounds_toArray, List.set_cons_zero, List.set_cons_succ, i64_w, i32_w]
                      rfl
                    refine pure_ (i := 2) (N := some 68) (v := ?_) (a' := ?_) #[true, true, true, false, false, false, false, false, false, false, false, false, false] rfl rfl (any_of HT_.out (by kernel_rfl)) (fun _ _ _ h => h) (Or.inl ⟨by rfl, ?_⟩) ?_ ?_
                    rotate_left
                    · intro w'
                      go_simp
                      with_reducible rfl
                    rotate_left
                    · simp only [Act.put, List.setIfInBounds_toArray, List.set_cons_zero, List.set_cons_succ, i64_w, i32_w]
                      rfl
                    refine pure_ (i := 3) (N := some 69) (v := ?_) (a' := ?_) #[true, true, true, true, false, false, false, false, false, false, false, false, false] rfl rfl (any_of HT_.out (by kernel_rfl)) (fun _ _ _ h => h) (Or.inl ⟨by rfl, ?_⟩) ?_ ?_
                    rotate_left
                    · intro w'
                      go_simp
                      with_reducible rfl
                    rotate_left
                    · simp only [Act.put, List.setIfInBounds_toArray, List.set_cons_zero, List.set_cons_succ, i64_w, i32_w]
                      rfl
                    refine pure_ (i := 4) (N := some 70) (v := ?_) (a' := ?_) #[true, true, true, true, true, false, false, false, false, false, false, false, false] rfl rfl (any_of HT_.out (by kernel_rfl)) (fun _ _ _ h => h) (Or.inl ⟨by rfl, ?_⟩) ?_ ?_
                    rotate_left
                    · intro w'
                      go_simp
                      with_reducible rfl
                    rotate_left
                    · simp only [Act.put, List.setIfInBounds_toArray, List.set_cons_zero, List.set_cons_succ, i64_w, i32_w]
                      rfl
                    refine pure_ (i := 5) (N := some 71) (v := ?_) (a' := ?_) #[true, true, true, true, true, true, false, false, false, false, false, false, false] rfl rfl (any_of HT_.out (by kernel_rfl)) (fun _ _ _ h => h) (Or.inl ⟨by rfl, ?_⟩) ?_ ?_
                    rotate_left
                    · intro w'
                      go_simp
                      with_reducible rfl
                    rotate_left
                    · simp only [Act.put, List.setIfInBounds_toArray, List.set_cons_zero, List.set_cons_succ, i64_w, i32_w]
                      rfl
                    refine join_ (σ := Nat) 2 #[true, true, true, true, true, true, true, true, true, true, true, false, false] (fun s_ => [(72, .tuple #[.agg #[.float .f64 t252, .float .f64 t253], .int .i64 t254]), (12, .pointer (some ⟨s_, 0, none⟩)), (65, .tuple #[.agg #[.float .f64 t252, .float .f64 t253], .int .i64 t254]), (73, .agg #[.float .f64 t252, .float .f64 t253]), (74, .int .i64 t254)]) (fun s_ w' => (Kd.R k61 61 w' w.heap.size (fun k_ => some k_ ≠ (.slice Ao14 t225.length co14 : Value).ownBlock ∧ k_ ≠ gb231 ∧ k_ ≠ gb243 ∧ k_ ≠ s_) (.slice Ao13 t222.length co13) t222) ∧ (Kd.R k61 61 w' w.heap.size (fun k_ => some k_ ≠ (.slice Ao13 t222.length co13 : Value).ownBlock ∧ k_ ≠ gb231 ∧ k_ ≠ gb243 ∧ k_ ≠ s_) (.slice Ao14 t225.length co14) t225) ∧ (w'.heap[gb231]? = some (.cells #[.float .f64 t228, .float .f64 t229] 61 (0, 0))) ∧ (w'.heap[gb243]? = some (.cells #[.float .f64 t240, .float .f64 t241] 61 (0, 0))) ∧ (w'.heap[s_]? = some (.cells #[.float .f64 0, .float .f64 0] 61 (0, 0))) ∧ (w.heap.size ≤ s_) ∧ (w.heap.size ≤ s_) ∧ (gb231 ≠ s_) ∧ (s_ ≠ gb231) ∧ (gb243 ≠ s_) ∧ (s_ ≠ gb243) ∧ (Below w.heap.size w w')) ?_ ?_
                    rotate_left
                    · intro hCont
                      refine two_ (i := 6) (j := 10) (Ni := some 72) (Nj := some 12) #[true, true, true, true, true, true, true, false, false, false, false, false, false] #[true, true, true, true, true, true, false, false, false, false, true, false, false] rfl rfl rfl rfl (two_of HT_.out (by kernel_rfl)) (by decide) (by decide) (fun K hK => ?_) (fun K hK => ?_)
                      · skip
                        refine goes_ Try.func24 (by kernel_rfl) rfl #[.slice Ao14 y244.length co14, .slice Ao13 y248.length co13] (by rfl) rfl rfl (by (try simp only [List.map_toArray, List.map_cons, List.map_nil]); first | done | rfl | (simp only [List.length_drop, List.length_take]; rfl) | (simp only [KY40.out, KY41.out, KY49.out, KY50.out]; rfl) | (simp [KY40.out, KY41.out, KY49.out, KY50.out]; done)) ?_
                        with_reducible refine (impl_PowerOf.calls kj9 _ _ y244 _ _ y248 t252 t253 t254 _ ?side1 ?side2 ?side3 ?side4 A32.out).mono ?_
                        (case side1 => repeat (first | exact (by repeat (first | (with_reducible exact HR247.out) | (with_reducible refine Kd.C_alloc ?_ _) | (with_reducible refine Kd.C_drewN ?_ _) | (with_reducible refine Kd.C_drew ?_) | exact HR247.out)) | (with_reducible refine Kd.C_alloc ?_ _) | (with_reducible refine Kd.C_drewN ?_ _) | (with_reducible refine Kd.C_drew ?_)))
                        (case side2 => exact HC247.out)
                        (case side3 => repeat (first | exact (by repeat (first | (with_reducible exact HR251.out) | (with_reducible refine Kd.C_alloc ?_ _) | (with_reducible refine Kd.C_drewN ?_ _) | (with_reducible refine Kd.C_drew ?_) | exact HR251.out)) | (with_reducible refine Kd.C_alloc ?_ _) | (with_reducible refine Kd.C_drewN ?_ _) | (with_reducible refine Kd.C_drew ?_)))
                        (case side4 => exact HC251.out)
                        rintro e w51 ⟨rfl, hb⟩
                        refine ⟨_, rfl, ?_⟩
                        have n0_ := Aside0.mk (Kd.R_below (by (with_reducible repeat (first | apply Kd.R_alloc | apply Kd.R_drewN | apply Kd.R_drew)); exact HO_5.out) hb)
                        have n1_ := Aside0.mk (Kd.R_below (by (with_reducible repeat (first | apply Kd.R_alloc | apply Kd.R_drewN | apply Kd.R_drew)); exact HO_6.out) hb)
                        have n2_ := Aside0.mk (blk_below (g := gb231) (o := .cells #[.float .f64 t228, .float .f64 t229] 61 (0, 0)) (by (with_reducible repeat (first | refine blk_drewN ?_ _ | refine blk_drew ?_ | refine blk_alloc ?_ _)); exact BK231.out) hb)
                        have n3_ := Aside0.mk (blk_below (g := gb243) (o := .cells #[.float .f64 t240, .float .f64 t241] 61 (0, 0)) (by (with_reducible repeat (first | refine blk_drewN ?_ _ | refine blk_drew ?_ | refine blk_alloc ?_ _)); exact BK243.out) hb)
                        have n4_ := Aside0.mk (Kd.C_below (by repeat (first | (with_reducible exact HR247.out) | (with_reducible refine Kd.C_alloc ?_ _) | (with_reducible refine Kd.C_drewN ?_ _) | (with_reducible refine Kd.C_drew ?_) | exact HR247.out)) hb)
                        have n5_ := Aside0.mk (Kd.C_below (by repeat (first | (with_reducible exact HR251.out) | (with_reducible refine Kd.C_alloc ?_ _) | (with_reducible refine Kd.C_drewN ?_ _) | (with_reducible refine Kd.C_drew ?_) | exact HR251.out)) hb)
                        have n6_ := Aside0.mk (below_step (by repeat (first | (with_reducible first | exact HB.out | apply below_alloc | apply pw_below_drewN | apply below_drew1 | refine below_set ?_ GE231.out | refine below_set ?_ GE243.out) | exact HB.out)) hb)
                        clear HO_5
                        clear HO_6
                        clear BK231
                        clear BK243
                        clear HR247
                        clear HR251
                        clear HB
                        have HO_5 := n0_
                        have HO_6 := n1_
                        have BK231 := n2_
                        have BK243 := n3_
                        have HR247 := n4_
                        have HR251 := n5_
                        have HB := n6_
                        clear n0_ n1_ n2_ n3_ n4_ n5_ n6_
                        (try clear hb)
                        (try clear hb2)
                        (try clear hk)
                        (try clear hi)
                        refine hK.out _ _ trivial (fun hHeld => ?_)
                        clear hK K
                        refine norm_ (a' := ?_) ?_ ?_
                        rotate_left
                        · show Act.put _ (some 72) _ = _
                          simp only [Act.put, List.setIfInBounds_toArray, List.set_cons_zero, List.set_cons_succ, i64_w, i32_w]
                          rfl
                        refine pure_ (i := 7) (N := some 65) (v := ?_) (a' := ?_) #[true, true, true, true, true, true, true, true, false, false, false, false, false] rfl rfl (any_of HT_.out (by kernel_rfl)) (fun _ _ _ h => h) (Or.inl ⟨by rfl, ?_⟩) ?_ ?_
                        rotate_left
                        · intro w'
                          go_simp
                          with_reducible rfl
                        rotate_left
                        · simp only [Act.put, List.setIfInBounds_toArray, List.set_cons_zero, List.set_cons_succ, i64_w, i32_w]
                          rfl
                        refine pure_ (i := 8) (N := some 73) (v := ?_) (a' := ?_) #[true, true, true, true, true, true, true, true, true, false, false, false, false] rfl rfl (any_of HT_.out (by kernel_rfl)) (fun _ _ _ h => h) (Or.inl ⟨by rfl, ?_⟩) ?_ ?_
                        rotate_left
                        · intro w'
                          go_simp
                          with_reducible rfl
                        rotate_left
                        · simp only [Act.put, List.setIfInBounds_toArray, List.set_cons_zero, List.set_cons_succ, i64_w, i32_w]
                          rfl
                        refine pure_ (i := 9) (N := some 74) (v := ?_) (a' := ?_) #[true, true, true, true, true, true, true, true, true, true, false, false, false] rfl rfl (any_of HT_.out (by kernel_rfl)) (fun _ _ _ h => h) (Or.inl ⟨by rfl, ?_⟩) ?_ ?_
                        rotate_left
                        · intro w'
                          go_simp
                          with_reducible rfl
                        rotate_left
                        · simp only [Act.put, List.setIfInBounds_toArray, List.set_cons_zero, List.set_cons_succ, i64_w, i32_w]
                          rfl
                        refine one_ (i := 10) (N := some 12) #[true, true, true, true, true, true, true, true, true, true, true, false, false] rfl rfl (one_of HT_.out (by kernel_rfl)) (by decide) (fun K hK => ?_)
                        refine box_step ?hg (N := 12) ?hd (cs := #[.float .f64 0, .float .f64 0]) (t := 61) ?hr ?_; (case hd => rfl); (case hg => rfl); (case hr => first | (go_simp; done) | (go_simp; rfl))
                        intro gb255 hg w52 hbox hb
                        have n0_ := Aside0.mk (Kd.R_below (Kd.R_elderB (by (with_reducible repeat (first | apply Kd.R_alloc | apply Kd.R_drewN | apply Kd.R_drew)); exact HO_5.out) gb255 (Nat.le_of_eq hg.symm)) hb)
                        have n1_ := Aside0.mk (Kd.R_below (Kd.R_elderB (by (with_reducible repeat (first | apply Kd.R_alloc | apply Kd.R_drewN | apply Kd.R_drew)); exact HO_6.out) gb255 (Nat.le_of_eq hg.symm)) hb)
                        have n2_ := Aside0.mk (blk_below (g := gb231) (o := .cells #[.float .f64 t228, .float .f64 t229] 61 (0, 0)) (by (with_reducible repeat (first | refine blk_drewN ?_ _ | refine blk_drew ?_ | refine blk_alloc ?_ _)); exact BK231.out) hb)
                        have n3_ := Aside0.mk (blk_below (g := gb243) (o := .cells #[.float .f64 t240, .float .f64 t241] 61 (0, 0)) (by (with_reducible repeat (first | refine blk_drewN ?_ _ | refine blk_drew ?_ | refine blk_alloc ?_ _)); exact BK243.out) hb)
                        have n4_ := Aside0.mk (Kd.C_below (by repeat (first | (with_reducible exact HR247.out) | (with_reducible refine Kd.C_alloc ?_ _) | (with_reducible refine Kd.C_drewN ?_ _) | (with_reducible refine Kd.C_drew ?_) | exact HR247.out)) hb)
                        have n5_ := Aside0.mk (Kd.C_below (by repeat (first | (with_reducible exact HR251.out) | (with_reducible refine Kd.C_alloc ?_ _) | (with_reducible refine Kd.C_drewN ?_ _) | (with_reducible refine Kd.C_drew ?_) | exact HR251.out)) hb)
                        have n6_ := Aside0.mk (below_step (by repeat (first | (with_reducible first | exact HB.out | apply below_alloc | apply pw_below_drewN | apply below_drew1 | refine below_set ?_ GE231.out | refine below_set ?_ GE243.out) | exact HB.out)) hb)
                        have n7_ := Aside0.mk (hbox)
                        have n8_ := Aside0.mk ((by rw [hg]; exact (below_size (by repeat (first | (with_reducible first | exact HB.out | apply below_alloc | apply pw_below_drewN | apply below_drew1 | refine below_set ?_ GE231.out | refine below_set ?_ GE243.out) | exact HB.out))) : w.heap.size ≤ gb255))
                        have n9_ := Aside0.mk ((by rw [hg]; exact (below_size (by repeat (first | (with_reducible first | exact HB.out | apply below_alloc | apply pw_below_drewN | apply below_drew1 | refine below_set ?_ GE231.out | refine below_set ?_ GE243.out) | exact HB.out))) : w.heap.size ≤ gb255))
                        have n10_ := Aside0.mk ((by rw [hg]; exact Nat.ne_of_lt (blk_lt (g := gb231) (o := .cells #[.float .f64 t228, .float .f64 t229] 61 (0, 0)) (by (with_reducible repeat (first | refine blk_drewN ?_ _ | refine blk_drew ?_ | refine blk_alloc ?_ _)); exact BK231.out)) : gb231 ≠ gb255))
                        have n11_ := Aside0.mk ((by rw [hg]; exact Nat.ne_of_gt (blk_lt (g := gb231) (o := .cells #[.float .f64 t228, .float .f64 t229] 61 (0, 0)) (by (with_reducible repeat (first | refine blk_drewN ?_ _ | refine blk_drew ?_ | refine blk_alloc ?_ _)); exact BK231.out)) : gb255 ≠ gb231))
                        have n12_ := Aside0.mk ((by rw [hg]; exact Nat.ne_of_lt (blk_lt (g := gb243) (o := .cells #[.float .f64 t240, .float .f64 t241] 61 (0, 0)) (by (with_reducible repeat (first | refine blk_drewN ?_ _ | refine blk_drew ?_ | refine blk_alloc ?_ _)); exact BK243.out)) : gb243 ≠ gb255))
                        have n13_ := Aside0.mk ((by rw [hg]; exact Nat.ne_of_gt (blk_lt (g := gb243) (o := .cells #[.float .f64 t240, .float .f64 t241] 61 (0, 0)) (by (with_reducible repeat (first | refine blk_drewN ?_ _ | refine blk_drew ?_ | refine blk_alloc ?_ _)); exact BK243.out)) : gb255 ≠ gb243))
                        clear HO_5
                        clear HO_6
                        clear BK231
                        clear BK243
                        clear HR247
                        clear HR251
                        clear HB
                        have HO_5 := n0_
                        have HO_6 := n1_
                        have BK231 := n2_
                        have BK243 := n3_
                        have HR247 := n4_
                        have HR251 := n5_
                        have HB := n6_
                        have BK255 := n7_
                        have GW255 := n8_
                        have GE255 := n9_
                        have NB231_255 := n10_
                        have NB255_231 := n11_
                        have NB243_255 := n12_
                        have NB255_243 := n13_
                        clear n0_ n1_ n2_ n3_ n4_ n5_ n6_ n7_ n8_ n9_ n10_ n11_ n12_ n13_
                        clear hb hbox hg
                        refine hK.out _ _ trivial (fun hHeld => ?_)
                        clear hK K
                        refine norm_ (a' := ?_) ?_ ?_
                        rotate_left
                        · show Act.put _ (some 12) _ = _
                          simp only [Act.put, List.setIfInBounds_toArray, List.set_cons_zero, List.set_cons_succ, i64_w, i32_w]
                          rfl
                        exact norm_ (by simp only [putAll, Act.put, List.setIfInBounds_toArray, List.set_cons_zero, List.set_cons_succ]) (hCont (gb255) _ ⟨(by (with_reducible repeat (first | apply Kd.R_alloc | apply Kd.R_drewN | apply Kd.R_drew)); exact Kd.R_mono HO_5.out (fun _ hk => ⟨hk.1.1, ⟨hk.1.2.1, ⟨hk.1.2.2, hk.2⟩⟩⟩)), (by (with_reducible repeat (first | apply Kd.R_alloc | apply Kd.R_drewN | apply Kd.R_drew)); exact Kd.R_mono HO_6.out (fun _ hk => ⟨hk.1.1, ⟨hk.1.2.1, ⟨hk.1.2.2, hk.2⟩⟩⟩)), (by (with_reducible repeat (first | refine blk_drewN ?_ _ | refine blk_drew ?_ | refine blk_alloc ?_ _)); exact BK231.out), (by (with_reducible repeat (first | refine blk_drewN ?_ _ | refine blk_drew ?_ | refine blk_alloc ?_ _)); exact BK243.out), (by (with_reducible repeat (first | refine blk_drewN ?_ _ | refine blk_drew ?_ | refine blk_alloc ?_ _)); exact BK255.out), GW255.out, GE255.out, NB231_255.out, NB255_231.out, NB243_255.out, NB255_243.out, (by repeat (first | (with_reducible first | exact HB.out | apply below_alloc | apply pw_below_drewN | apply below_drew1 | refine below_set ?_ GE231.out | refine below_set ?_ GE243.out | refine below_set ?_ GE255.out) | exact HB.out))⟩)
                      · skip
                        refine box_step ?hg (N := 12) ?hd (cs := #[.float .f64 0, .float .f64 0]) (t := 61) ?hr ?_; (case hd => rfl); (case hg => rfl); (case hr => first | (go_simp; done) | (go_simp; rfl))
                        intro gb255 hg w51 hbox hb
                        have n0_ := Aside0.mk (Kd.R_below (Kd.R_elderB (by (with_reducible repeat (first | apply Kd.R_alloc | apply Kd.R_drewN | apply Kd.R_drew)); exact HO_5.out) gb255 (Nat.le_of_eq hg.symm)) hb)
                        have n1_ := Aside0.mk (Kd.R_below (Kd.R_elderB (by (with_reducible repeat (first | apply Kd.R_alloc | apply Kd.R_drewN | apply Kd.R_drew)); exact HO_6.out) gb255 (Nat.le_of_eq hg.symm)) hb)
                        have n2_ := Aside0.mk (blk_below (g := gb231) (o := .cells #[.float .f64 t228, .float .f64 t229] 61 (0, 0)) (by (with_reducible repeat (first | refine blk_drewN ?_ _ | refine blk_drew ?_ | refine blk_alloc ?_ _)); exact BK231.out) hb)
                        have n3_ := Aside0.mk (blk_below (g := gb243) (o := .cells #[.float .f64 t240, .float .f64 t241] 61 (0, 0)) (by (with_reducible repeat (first | refine blk_drewN ?_ _ | refine blk_drew ?_ | refine blk_alloc ?_ _)); exact BK243.out) hb)
                        have n4_ := Aside0.mk (Kd.C_below (by repeat (first | (with_reducible exact HR247.out) | (with_reducible refine Kd.C_alloc ?_ _) | (with_reducible refine Kd.C_drewN ?_ _) | (with_reducible refine Kd.C_drew ?_) | exact HR247.out)) hb)
                        have n5_ := Aside0.mk (Kd.C_below (by repeat (first | (with_reducible exact HR251.out) | (with_reducible refine Kd.C_alloc ?_ _) | (with_reducible refine Kd.C_drewN ?_ _) | (with_reducible refine Kd.C_drew ?_) | exact HR251.out)) hb)
                        have n6_ := Aside0.mk (below_step (by repeat (first | (with_reducible first | exact HB.out | apply below_alloc | apply pw_below_drewN | apply below_drew1 | refine below_set ?_ GE231.out | refine below_set ?_ GE243.out) | exact HB.out)) hb)
                        have n7_ := Aside0.mk (hbox)
                        have n8_ := Aside0.mk ((by rw [hg]; exact (below_size (by repeat (first | (with_reducible first | exact HB.out | apply below_alloc | apply pw_below_drewN | apply below_drew1 | refine below_set ?_ GE231.out | refine below_set ?_ GE243.out) | exact HB.out))) : w.heap.size ≤ gb255))
                        have n9_ := Aside0.mk ((by rw [hg]; exact (below_size (by repeat (first | (with_reducible first | exact HB.out | apply below_alloc | apply pw_below_drewN | apply below_drew1 | refine below_set ?_ GE231.out | refine below_set ?_ GE243.out) | exact HB.out))) : w.heap.size ≤ gb255))
                        have n10_ := Aside0.mk ((by rw [hg]; exact Nat.ne_of_lt (blk_lt (g := gb231) (o := .cells #[.float .f64 t228, .float .f64 t229] 61 (0, 0)) (by (with_reducible repeat (first | refine blk_drewN ?_ _ | refine blk_drew ?_ | refine blk_alloc ?_ _)); exact BK231.out)) : gb231 ≠ gb255))
                        have n11_ := Aside0.mk ((by rw [hg]; exact Nat.ne_of_gt (blk_lt (g := gb231) (o := .cells #[.float .f64 t228, .float .f64 t229] 61 (0, 0)) (by (with_reducible repeat (first | refine blk_drewN ?_ _ | refine blk_drew ?_ | refine blk_alloc ?_ _)); exact BK231.out)) : gb255 ≠ gb231))
                        have n12_ := Aside0.mk ((by rw [hg]; exact Nat.ne_of_lt (blk_lt (g := gb243) (o := .cells #[.float .f64 t240, .float .f64 t241] 61 (0, 0)) (by (with_reducible repeat (first | refine blk_drewN ?_ _ | refine blk_drew ?_ | refine blk_alloc ?_ _)); exact BK243.out)) : gb243 ≠ gb255))
                        have n13_ := Aside0.mk ((by rw [hg]; exact Nat.ne_of_gt (blk_lt (g := gb243) (o := .cells #[.float .f64 t240, .float .f64 t241] 61 (0, 0)) (by (with_reducible repeat (first | refine blk_drewN ?_ _ | refine blk_drew ?_ | refine blk_alloc ?_ _)); exact BK243.out)) : gb255 ≠ gb243))
                        clear HO_5
                        clear HO_6
                        clear BK231
                        clear BK243
                        clear HR247
                        clear HR251
                        clear HB
                        have HO_5 := n0_
                        have HO_6 := n1_
                        have BK231 := n2_
                        have BK243 := n3_
                        have HR247 := n4_
                        have HR251 := n5_
                        have HB := n6_
                        have BK255 := n7_
                        have GW255 := n8_
                        have GE255 := n9_
                        have NB231_255 := n10_
                        have NB255_231 := n11_
                        have NB243_255 := n12_
                        have NB255_243 := n13_
                        clear n0_ n1_ n2_ n3_ n4_ n5_ n6_ n7_ n8_ n9_ n10_ n11_ n12_ n13_
                        clear hb hbox hg
                        refine hK.out _ _ trivial (fun hHeld => ?_)
                        clear hK K
                        refine norm_ (a' := ?_) ?_ ?_
                        rotate_left
                        · show Act.put _ (some 12) _ = _
                          simp only [Act.put, List.setIfInBounds_toArray, List.set_cons_zero, List.set_cons_succ, i64_w, i32_w]
                          rfl
                        refine one_ (i := 6) (N := some 72) #[true, true, true, true, true, true, true, false, false, false, true, false, false] rfl rfl (one_of HT_.out (by kernel_rfl)) (by decide) (fun K hK => ?_)
                        refine goes_ Try.func24 (by kernel_rfl) rfl #[.slice Ao14 y244.length co14, .slice Ao13 y248.length co13] (by rfl) rfl rfl (by (try simp only [List.map_toArray, List.map_cons, List.map_nil]); first | done | rfl | (simp only [List.length_drop, List.length_take]; rfl) | (simp only [KY40.out, KY41.out, KY49.out, KY50.out]; rfl) | (simp [KY40.out, KY41.out, KY49.out, KY50.out]; done)) ?_
                        with_reducible refine (impl_PowerOf.calls kj9 _ _ y244 _ _ y248 t252 t253 t254 _ ?side1 ?side2 ?side3 ?side4 A32.out).mono ?_
                        (case side1 => repeat (first | exact (by repeat (first | (with_reducible exact HR247.out) | (with_reducible refine Kd.C_alloc ?_ _) | (with_reducible refine Kd.C_drewN ?_ _) | (with_reducible refine Kd.C_drew ?_) | exact HR247.out)) | (with_reducible refine Kd.C_alloc ?_ _) | (with_reducible refine Kd.C_drewN ?_ _) | (with_reducible refine Kd.C_drew ?_)))
                        (case side2 => exact HC247.out)
                        (case side3 => repeat (first | exact (by repeat (first | (with_reducible exact HR251.out) | (with_reducible refine Kd.C_alloc ?_ _) | (with_reducible refine Kd.C_drewN ?_ _) | (with_reducible refine Kd.C_drew ?_) | exact HR251.out)) | (with_reducible refine Kd.C_alloc ?_ _) | (with_reducible refine Kd.C_drewN ?_ _) | (with_reducible refine Kd.C_drew ?_)))
                        (case side4 => exact HC251.out)
                        rintro e w52 ⟨rfl, hb⟩
                        refine ⟨_, rfl, ?_⟩
                        have n0_ := Aside0.mk (Kd.R_below (by (with_reducible repeat (first | apply Kd.R_alloc | apply Kd.R_drewN | apply Kd.R_drew)); exact HO_5.out) hb)
                        have n1_ := Aside0.mk (Kd.R_below (by (with_reducible repeat (first | apply Kd.R_alloc | apply Kd.R_drewN | apply Kd.R_drew)); exact HO_6.out) hb)
                        have n2_ := Aside0.mk (blk_below (g := gb231) (o := .cells #[.float .f64 t228, .float .f64 t229] 61 (0, 0)) (by (with_reducible repeat (first | refine blk_drewN ?_ _ | refine blk_drew ?_ | refine blk_alloc ?_ _)); exact BK231.out) hb)
                        have n3_ := Aside0.mk (blk_below (g := gb243) (o := .cells #[.float .f64 t240, .float .f64 t241] 61 (0, 0)) (by (with_reducible repeat (first | refine blk_drewN ?_ _ | refine blk_drew ?_ | refine blk_alloc ?_ _)); exact BK243.out) hb)
                        have n4_ := Aside0.mk (Kd.C_below (by repeat (first | (with_reducible exact HR247.out) | (with_reducible refine Kd.C_alloc ?_ _) | (with_reducible refine Kd.C_drewN ?_ _) | (with_reducible refine Kd.C_drew ?_) | exact HR247.out)) hb)
                        have n5_ := Aside0.mk (Kd.C_below (by repeat (first | (with_reducible exact HR251.out) | (with_reducible refine Kd.C_alloc ?_ _) | (with_reducible refine Kd.C_drewN ?_ _) | (with_reducible refine Kd.C_drew ?_) | exact HR251.out)) hb)
                        have n6_ := Aside0.mk (blk_below (g := gb255) (o := .cells #[.float .f64 0, .float .f64 0] 61 (0, 0)) (by (with_reducible repeat (first | refine blk_drewN ?_ _ | refine blk_drew ?_ | refine blk_alloc ?_ _)); exact BK255.out) hb)
                        have n7_ := Aside0.mk (below_step (by repeat (first | (with_reducible first | exact HB.out | apply below_alloc | apply pw_below_drewN | apply below_drew1 | refine below_set ?_ GE231.out | refine below_set ?_ GE243.out | refine below_set ?_ GE255.out) | exact HB.out)) hb)
                        clear HO_5
                        clear HO_6
                        clear BK231
                        clear BK243
                        clear HR247
                        clear HR251
                        clear BK255
                        clear HB
                        have HO_5 := n0_
                        have HO_6 := n1_
                        have BK231 := n2_
                        have BK243 := n3_
                        have HR247 := n4_
                        have HR251 := n5_
                        have BK255 := n6_
                        have HB := n7_
                        clear n0_ n1_ n2_ n3_ n4_ n5_ n6_ n7_
                        (try clear hb)
                        (try clear hb2)
                        (try clear hk)
                        (try clear hi)
                        refine hK.out _ _ trivial (fun hHeld => ?_)
                        clear hK K
                        refine norm_ (a' := ?_) ?_ ?_
                        rotate_left
                        · show Act.put _ (some 72) _ = _
                          simp only [Act.put, List.setIfInBounds_toArray, List.set_cons_zero, List.set_cons_succ, i64_w, i32_w]
                          rfl
                        refine pure_ (i := 7) (N := some 65) (v := ?_) (a' := ?_) #[true, true, true, true, true, true, true, true, false, false, true, false, false] rfl rfl (any_of HT_.out (by kernel_rfl)) (fun _ _ _ h => h) (Or.inl ⟨by rfl, ?_⟩) ?_ ?_
                        rotate_left
                        · intro w'
                          go_simp
                          with_reducible rfl
                        rotate_left
                        · simp only [Act.put, List.setIfInBounds_toArray, List.set_cons_zero, List.set_cons_succ, i64_w, i32_w]
                          rfl
                        refine pure_ (i := 8) (N := some 73) (v := ?_) (a' := ?_) #[true, true, true, true, true, true, true, true, true, false, true, false, false] rfl rfl (any_of HT_.out (by kernel_rfl)) (fun _ _ _ h => h) (Or.inl ⟨by rfl, ?_⟩) ?_ ?_
                        rotate_left
                        · intro w'
                          go_simp
                          with_reducible rfl
                        rotate_left
                        · simp only [Act.put, List.setIfInBounds_toArray, List.set_cons_zero, List.set_cons_succ, i64_w, i32_w]
                          rfl
                        refine pure_ (i := 9) (N := some 74) (v := ?_) (a' := ?_) #[true, true, true, true, true, true, true, true, true, true, true, false, false] rfl rfl (any_of HT_.out (by kernel_rfl)) (fun _ _ _ h => h) (Or.inl ⟨by rfl, ?_⟩) ?_ ?_
                        rotate_left
                        · intro w'
                          go_simp
                          with_reducible rfl
                        rotate_left
                        · simp only [Act.put, List.setIfInBounds_toArray, List.set_cons_zero, List.set_cons_succ, i64_w, i32_w]
                          rfl
                        exact norm_ (by simp only [putAll, Act.put, List.setIfInBounds_toArray, List.set_cons_zero, List.set_cons_succ]) (hCont (gb255) _ ⟨(by (with_reducible repeat (first | apply Kd.R_alloc | apply Kd.R_drewN | apply Kd.R_drew)); exact Kd.R_mono HO_5.out (fun _ hk => ⟨hk.1.1, ⟨hk.1.2.1, ⟨hk.1.2.2, hk.2⟩⟩⟩)), (by (with_reducible repeat (first | apply Kd.R_alloc | apply Kd.R_drewN | apply Kd.R_drew)); exact Kd.R_mono HO_6.out (fun _ hk => ⟨hk.1.1, ⟨hk.1.2.1, ⟨hk.1.2.2, hk.2⟩⟩⟩)), (by (with_reducible repeat (first | refine blk_drewN ?_ _ | refine blk_drew ?_ | refine blk_alloc ?_ _)); exact BK231.out), (by (with_reducible repeat (first | refine blk_drewN ?_ _ | refine blk_drew ?_ | refine blk_alloc ?_ _)); exact BK243.out), (by (with_reducible repeat (first | refine blk_drewN ?_ _ | refine blk_drew ?_ | refine blk_alloc ?_ _)); exact BK255.out), GW255.out, GE255.out, NB231_255.out, NB255_231.out, NB243_255.out, NB255_243.out, (by repeat (first | (with_reducible first | exact HB.out | apply below_alloc | apply pw_below_drewN | apply below_drew1 | refine below_set ?_ GE231.out | refine below_set ?_ GE243.out | refine below_set ?_ GE255.out) | exact HB.out))⟩)
                    rintro gb255 w53 ⟨h0_, h1_, h2_, h3_, h4_, h5_, h6_, h7_, h8_, h9_, h10_, h11_⟩
                    have n0_ : Aside0 (Kd.R k61 61 w53 w.heap.size (fun k_ => some k_ ≠ (.slice Ao14 t225.length co14 : Value).ownBlock ∧ k_ ≠ gb231 ∧ k_ ≠ gb243 ∧ k_ ≠ gb255) (.slice Ao13 t222.length co13) t222) := ⟨h0_⟩
                    have n1_ : Aside0 (Kd.R k61 61 w53 w.heap.size (fun k_ => some k_ ≠ (.slice Ao13 t222.length co13 : Value).ownBlock ∧ k_ ≠ gb231 ∧ k_ ≠ gb243 ∧ k_ ≠ gb255) (.slice Ao14 t225.length co14) t225) := ⟨h1_⟩
                    have n2_ : Aside0 (w53.heap[gb231]? = some (.cells #[.float .f64 t228, .float .f64 t229] 61 (0, 0))) := ⟨h2_⟩
                    have n3_ : Aside0 (w53.heap[gb243]? = some (.cells #[.float .f64 t240, .float .f64 t241] 61 (0, 0))) := ⟨h3_⟩
                    have n4_ : Aside0 (w53.heap[gb255]? = some (.cells #[.float .f64 0, .float .f64 0] 61 (0, 0))) := ⟨h4_⟩
                    have n5_ : Aside0 (w.heap.size ≤ gb255) := ⟨h5_⟩
                    have n6_ : Aside0 (w.heap.size ≤ gb255) := ⟨h6_⟩
                    have n7_ : Aside0 (gb231 ≠ gb255) := ⟨h7_⟩
                    have n8_ : Aside0 (gb255 ≠ gb231) := ⟨h8_⟩
                    have n9_ : Aside0 (gb243 ≠ gb255) := ⟨h9_⟩
                    have n10_ : Aside0 (gb255 ≠ gb243) := ⟨h10_⟩
                    have n11_ : Aside0 (Below w.heap.size w w53) := ⟨h11_⟩
                    clear HO_5
                    clear HO_6
                    clear BK231
                    clear BK243
                    clear HB
                    clear h0_ h1_ h2_ h3_ h4_ h5_ h6_ h7_ h8_ h9_ h10_ h11_
                    have HO_5 := n0_
                    have HO_6 := n1_
                    have BK231 := n2_
                    have BK243 := n3_
                    have BK255 := n4_
                    have GW255 := n5_
                    have GE255 := n6_
                    have NB231_255 := n7_
                    have NB255_231 := n8_
                    have NB243_255 := n9_
                    have NB255_243 := n10_
                    have HB := n11_
                    clear n0_ n1_ n2_ n3_ n4_ n5_ n6_ n7_ n8_ n9_ n10_ n11_
                    have hHeld := trivial
                    refine norm_ (a' := ?_) ?_ ?_
                    rotate_left
                    · simp only [putAll, Act.put, List.setIfInBounds_toArray, List.set_cons_zero, List.set_cons_succ]
                      rfl
                    refine one_ (i := 11) (N := none) #[true, true, true, true, true, true, true, true, true, true, true, true, false] rfl rfl (one_of HT_.out (by kernel_rfl)) (by decide) (fun K hK => ?_)
                    have hs54 : w53.cell? ⟨gb255, 0, none⟩ = some (.float .f64 0) := (blk_cell BK255.out 0).trans rfl
                    have hfs54 := blk_frozen BK255.out 0
                    have hns54_0 := NB231_255.out
                    have hns54_1 := NB243_255.out
                    have hms54_0 := NB255_231.out
                    have hms54_1 := NB255_243.out
                    have hs55 : w53.cell? ⟨gb255, 1, none⟩ = some (.float .f64 0) := (blk_cell BK255.out 1).trans rfl
                    have hfs55 := blk_frozen BK255.out 1
                    have hns55_0 := NB231_255.out
                    have hns55_1 := NB243_255.out
                    have hms55_0 := NB255_231.out
                    have hms55_1 := NB255_243.out
                    refine skip_ (w1 := ?_) (by rfl) rfl ?_ ?_
                    rotate_left
                    · go_simp
                      rfl
                    refine hK.out _ _ trivial (fun hHeld => ?_)
                    clear hK K
                    refine pure_ (i := 12) (N := some 13) (v := ?_) (a' := ?_) #[true, true, true, true, true, true, true, true, true, true, true, true, true] rfl rfl (any_of HT_.out (by kernel_rfl)) (fun _ _ _ h => h) (Or.inl ⟨by rfl, ?_⟩) ?_ ?_
                    rotate_left
                    · intro w'
                      go_simp
                      with_reducible rfl
                    rotate_left
                    · simp only [Act.put, List.setIfInBounds_toArray, List.set_cons_zero, List.set_cons_succ, i64_w, i32_w]
                      rfl
                    refine done_ (done_of HT_.out (by kernel_rfl)) ?_
                    try go_wp2
                    have n0_ : Aside0 (Kd.R k61 61 ((w53.setCell ⟨gb255, 0, none⟩ (.float .f64 t252)).setCell ⟨gb255, 1, none⟩ (.float .f64 t253)) w.heap.size (fun k_ => some k_ ≠ (.slice Ao14 t225.length co14 : Value).ownBlock ∧ k_ ≠ gb231 ∧ k_ ≠ gb243 ∧ k_ ≠ gb255) (.slice Ao13 t222.length co13) t222) := ⟨by (with_reducible repeat (first | apply Kd.R_alloc | apply Kd.R_drewN | apply Kd.R_drew)); exact Kd.R_mono (Kd.R_far (p := ⟨gb255, 1, none⟩) (Kd.R_far (p := ⟨gb255, 0, none⟩) (Kd.R_mono HO_5.out (fun k_ hk => (⟨hk, hk.2.2.2⟩ : _ ∧ k_ ≠ gb255))) (fun _ hk => hk.2) (.float .f64 t252)) (fun _ hk => hk.2) (.float .f64 t253)) (fun _ hk => ⟨hk.1.1, ⟨hk.1.2.1, ⟨hk.1.2.2.1, hk.1.2.2.2⟩⟩⟩)⟩
                    have n1_ : Aside0 (Kd.R k61 61 ((w53.setCell ⟨gb255, 0, none⟩ (.float .f64 t252)).setCell ⟨gb255, 1, none⟩ (.float .f64 t253)) w.heap.size (fun k_ => some k_ ≠ (.slice Ao13 t222.length co13 : Value).ownBlock ∧ k_ ≠ gb231 ∧ k_ ≠ gb243 ∧ k_ ≠ gb255) (.slice Ao14 t225.length co14) t225) := ⟨by (with_reducible repeat (first | apply Kd.R_alloc | apply Kd.R_drewN | apply Kd.R_drew)); exact Kd.R_mono (Kd.R_far (p := ⟨gb255, 1, none⟩) (Kd.R_far (p := ⟨gb255, 0, none⟩) (Kd.R_mono HO_6.out (fun k_ hk => (⟨hk, hk.2.2.2⟩ : _ ∧ k_ ≠ gb255))) (fun _ hk => hk.2) (.float .f64 t252)) (fun _ hk => hk.2) (.float .f64 t253)) (fun _ hk => ⟨hk.1.1, ⟨hk.1.2.1, ⟨hk.1.2.2.1, hk.1.2.2.2⟩⟩⟩)⟩
                    have n2_ : Aside0 (((w53.setCell ⟨gb255, 0, none⟩ (.float .f64 t252)).setCell ⟨gb255, 1, none⟩ (.float .f64 t253)).heap[gb231]? = some (.cells #[.float .f64 t228, .float .f64 t229] 61 (0, 0))) := ⟨by (with_reducible repeat (first | refine blk_drewN ?_ _ | refine blk_drew ?_ | refine blk_alloc ?_ _)); refine blk_far ?_ NB231_255.out _; (with_reducible repeat (first | refine blk_drewN ?_ _ | refine blk_drew ?_ | refine blk_alloc ?_ _)); refine blk_far ?_ NB231_255.out _; (with_reducible repeat (first | refine blk_drewN ?_ _ | refine blk_drew ?_ | refine blk_alloc ?_ _)); exact BK231.out⟩
                    have n3_ : Aside0 (((w53.setCell ⟨gb255, 0, none⟩ (.float .f64 t252)).setCell ⟨gb255, 1, none⟩ (.float .f64 t253)).heap[gb243]? = some (.cells #[.float .f64 t240, .float .f64 t241] 61 (0, 0))) := ⟨by (with_reducible repeat (first | refine blk_drewN ?_ _ | refine blk_drew ?_ | refine blk_alloc ?_ _)); refine blk_far ?_ NB243_255.out _; (with_reducible repeat (first | refine blk_drewN ?_ _ | refine blk_drew ?_ | refine blk_alloc ?_ _)); refine blk_far ?_ NB243_255.out _; (with_reducible repeat (first | refine blk_drewN ?_ _ | refine blk_drew ?_ | refine blk_alloc ?_ _)); exact BK243.out⟩
                    have n4_ : Aside0 (((w53.setCell ⟨gb255, 0, none⟩ (.float .f64 t252)).setCell ⟨gb255, 1, none⟩ (.float .f64 t253)).heap[gb255]? = some (.cells #[.float .f64 t252, .float .f64 t253] 61 (0, 0))) := ⟨by (with_reducible repeat (first | refine blk_drewN ?_ _ | refine blk_drew ?_ | refine blk_alloc ?_ _)); refine blk_put (cs := #[.float .f64 t252, .float .f64 0]) ?_ 1 _ rfl; (with_reducible repeat (first | refine blk_drewN ?_ _ | refine blk_drew ?_ | refine blk_alloc ?_ _)); refine blk_put (cs := #[.float .f64 0, .float .f64 0]) ?_ 0 _ rfl; (with_reducible repeat (first | refine blk_drewN ?_ _ | refine blk_drew ?_ | refine blk_alloc ?_ _)); exact BK255.out⟩
                    have n5_ : Aside0 (Below w.heap.size w ((w53.setCell ⟨gb255, 0, none⟩ (.float .f64 t252)).setCell ⟨gb255, 1, none⟩ (.float .f64 t253))) := ⟨by repeat (first | (with_reducible first | exact HB.out | apply below_alloc | apply pw_below_drewN | apply below_drew1 | refine below_set ?_ GE231.out | refine below_set ?_ GE243.out | refine below_set ?_ GE255.out) | exact HB.out)⟩
                    (try clear HO_5)
                    (try clear HO_6)
                    (try clear BK231)
                    (try clear BK243)
                    (try clear BK255)
                    (try clear HB)
                    generalize ((w53.setCell ⟨gb255, 0, none⟩ (.float .f64 t252)).setCell ⟨gb255, 1, none⟩ (.float .f64 t253)) = w56 at n0_ n1_ n2_ n3_ n4_ n5_ ⊢
                    have HO_5 := n0_
                    have HO_6 := n1_
                    have BK231 := n2_
                    have BK243 := n3_
                    have BK255 := n4_
                    have HB := n5_
                    clear n0_ n1_ n2_ n3_ n4_ n5_
                    have n0_ := Aside0.mk (Kd.R_drew HO_5.out)
                    have n1_ := Aside0.mk (Kd.R_drew HO_6.out)
                    have n2_ := Aside0.mk (blk_drew BK231.out)
                    have n3_ := Aside0.mk (blk_drew BK243.out)
                    have n4_ := Aside0.mk (blk_drew BK255.out)
                    have n5_ := Aside0.mk (below_drew1 HB.out)
                    clear HO_5
                    clear HO_6
                    clear BK231
                    clear BK243
                    clear BK255
                    clear HB
                    have HO_5 := n0_
                    have HO_6 := n1_
                    have BK231 := n2_
                    have BK243 := n3_
                    have BK255 := n4_
                    have HB := n5_
                    clear n0_ n1_ n2_ n3_ n4_ n5_
                    have q58 : (ji8 : Int) ≤ ((t222.length : Int) : Int) := of_decide_eq_true (by first | (with_reducible assumption) | assumption)
                    obtain ⟨i058, hi058, _, hsz58, _⟩ := info_parts info61
                    have hroom58 : t222.length ≤ co13 := (Kd.R_reads' HO_5.out).2.1
                    have hC58 : Kd.C k61 _ Ao13 t222.length t222 := (Kd.R_reads' HO_5.out).2.2
                    have hcut58 := cut_to (P := Try.prog) 58 61 .i64 Try.underlying58 hi058 Ao13 t222.length co13 ji8 (of_decide_eq_true (by first | (with_reducible assumption) | assumption)) q58 hroom58
                    have hr58 := Kd.C_take (m := (ji8 : Int).toNat) hC58 (by omega)
                    have hy58 : y256.length = (ji8 : Int).toNat := (by rw [Ny256.out, List.length_take]; omega)
                    rw [← Ny256.out] at hr58
                    rw [← hy58] at hcut58
                    have HR259 := Aside0.mk hr58
                    have HC259 := Aside0.mk (show y256.length ≤ co13 from by omega)
                    clear hr58 hC58 hroom58 hi058 hsz58
                    have KY58 := Aside0.mk hy58
                    clear hy58
                    have KL58 := Aside0.mk (show (ji8 : Int).toNat ≤ t222.length from by omega)
                    replace q58 := eq_true q58
                    have q59 : (ji8 : Int) ≤ ((t225.length : Int) : Int) := of_decide_eq_true (by first | (with_reducible assumption) | assumption)
                    obtain ⟨i059, hi059, _, hsz59, _⟩ := info_parts info61
                    have hroom59 : t225.length ≤ co14 := (Kd.R_reads' HO_6.out).2.1
                    have hC59 : Kd.C k61 _ Ao14 t225.length t225 := (Kd.R_reads' HO_6.out).2.2
                    have hcut59 := cut_to (P := Try.prog) 58 61 .i64 Try.underlying58 hi059 Ao14 t225.length co14 ji8 (of_decide_eq_true (by first | (with_reducible assumption) | assumption)) q59 hroom59
                    have hr59 := Kd.C_take (m := (ji8 : Int).toNat) hC59 (by omega)
                    have hy59 : y260.length = (ji8 : Int).toNat := (by rw [Ny260.out, List.length_take]; omega)
                    rw [← Ny260.out] at hr59
                    rw [← hy59] at hcut59
                    have HR263 := Aside0.mk hr59
                    have HC263 := Aside0.mk (show y260.length ≤ co14 from by omega)
                    clear hr59 hC59 hroom59 hi059 hsz59
                    have KY59 := Aside0.mk hy59
                    clear hy59
                    have KL59 := Aside0.mk (show (ji8 : Int).toNat ≤ t225.length from by omega)
                    replace q59 := eq_true q59
                    refine start_ (n := 13) (S := fun w' => True) (ds := []) #[false, false, false, false, false, false, false, false, false, false, false, false, false] (by kernel_rfl) rfl rfl trivial (fun hHeld => ?_); refine with_tabW laws_FnPower.tab11 laws_FnPower.bits11 (fun HT_ HW_ => ?_)
                    generalize w56.drew = w57 at HO_5 HO_6 BK231 BK243 BK255 HB HR259 HR263 hHeld ⊢
                    refine pure_ (i := 0) (N := some 76) (v := ?_) (a' := ?_) #[true, false, false, false, false, false, false, false, false, false, false, false, false] rfl rfl (any_of HT_.out (by kernel_rfl)) (fun _ _ _ h => h) (Or.inl ⟨by rfl, ?_⟩) ?_ ?_
                    rotate_left
                    · intro w'
                      go_simp
                      with_reducible rfl
                    rotate_left
                    · simp only [Act.put, List.setIfInBounds_toArray, List.set_cons_zero, List.set_cons_succ, i64_w, i32_w]
                      rfl
                    refine pure_ (i := 1) (N := some 77) (v := ?_) (a' := ?_) #[true, true, false, false, false, false, false, false, false, false, false, false, false] rfl rfl (any_of HT_.out (by kernel_rfl)) (fun _ _ _ h => h) (Or.inl ⟨by rfl, ?_⟩) ?_ ?_
                    rotate_left
                    · intro w'
                      go_simp
                      with_reducible rfl
                    rotate_left
                    · simp only [Act.put, List.setIfInBounds_toArray, List.set_cons_zero, List.set_cons_succ, i64_w, i32_w]
                      rfl
                    refine pure_ (i := 2) (N := some 78) (v := ?_) (a' := ?_) #[true, true, true, false, false, false, false, false, false, false, false, false, false] rfl rfl (any_of HT_.out (by kernel_rfl)) (fun _ _ _ h => h) (Or.inl ⟨by rfl, ?_⟩) ?_ ?_
                    rotate_left
                    · intro w'
                      go_simp
                      with_reducible rfl
                    rotate_left
                    · simp only [Act.put, List.setIfInBounds_toArray, List.set_cons_zero, List.set_cons_succ, i64_w, i32_w]
                      rfl
                    refine pure_ (i := 3) (N := some 79) (v := ?_) (a' := ?_) #[true, true, true, true, false, false, false, false, false, false, false, false, false] rfl rfl (any_of HT_.out (by kernel_rfl)) (fun _ _ _ h => h) (Or.inl ⟨by rfl, ?_⟩) ?_ ?_
                    rotate_left
                    · intro w'
                      go_simp
                      with_reducible rfl
                    rotate_left
                    · simp only [Act.put, List.setIfInBounds_toArray, List.set_cons_zero, List.set_cons_succ, i64_w, i32_w]
                      rfl
                    refine pure_ (i := 4) (N := some 80) (v := ?_) (a' := ?_) #[true, true, true, true, true, false, false, false, false, false, false, false, false] rfl rfl (any_of HT_.out (by kernel_rfl)) (fun _ _ _ h => h) (Or.inl ⟨by rfl, ?_⟩) ?_ ?_
                    rotate_left
                    · intro w'
                      go_simp
                      with_reducible rfl
                    rotate_left
                    · simp only [Act.put, List.setIfInBounds_toArray, List.set_cons_zero, List.set_cons_succ, i64_w, i32_w]
                      rfl
                    refine pure_ (i := 5) (N := some 81) (v := ?_) (a' := ?_) #[true, true, true, true, true, true, false, false, false, false, false, false, false] rfl rfl (any_of HT_.out (by kernel_rfl)) (fun _ _ _ h => h) (Or.inl ⟨by rfl, ?_⟩) ?_ ?_
                    rotate_left
                    · intro w'
                      go_simp
                      with_reducible rfl
                    rotate_left
                    · simp only [Act.put, List.setIfInBounds_toArray, List.set_cons_zero, List.set_cons_succ, i64_w, i32_w]
                      rfl
                    refine join_ (σ := Nat) 2 #[true, true, true, true, true, true, true, true, true, true, true, false, false] (fun s_ => [(82, .tuple #[.agg #[.float .f64 t264, .float .f64 t265], .int .i64 t266]), (14, .pointer (some ⟨s_, 0, none⟩)), (75, .tuple #[.agg #[.float .f64 t264, .float .f64 t265], .int .i64 t266]), (83, .agg #[.float .f64 t264, .float .f64 t265]), (84, .int .i64 t266)]) (fun s_ w' => (Kd.R k61 61 w' w.heap.size (fun k_ => some k_ ≠ (.slice Ao14 t225.length co14 : Value).ownBlock ∧ k_ ≠ gb231 ∧ k_ ≠ gb243 ∧ k_ ≠ gb255 ∧ k_ ≠ s_) (.slice Ao13 t222.length co13) t222) ∧ (Kd.R k61 61 w' w.heap.size (fun k_ => some k_ ≠ (.slice Ao13 t222.length co13 : Value).ownBlock ∧ k_ ≠ gb231 ∧ k_ ≠ gb243 ∧ k_ ≠ gb255 ∧ k_ ≠ s_) (.slice Ao14 t225.length co14) t225) ∧ (w'.heap[gb231]? = some (.cells #[.float .f64 t228, .float .f64 t229] 61 (0, 0))) ∧ (w'.heap[gb243]? = some (.cells #[.float .f64 t240, .float .f64 t241] 61 (0, 0))) ∧ (w'.heap[gb255]? = some (.cells #[.float .f64 t252, .float .f64 t253] 61 (0, 0))) ∧ (w'.heap[s_]? = some (.cells #[.float .f64 0, .float .f64 0] 61 (0, 0))) ∧ (w.heap.size ≤ s_) ∧ (w.heap.size ≤ s_) ∧ (gb231 ≠ s_) ∧ (s_ ≠ gb231) ∧ (gb243 ≠ s_) ∧ (s_ ≠ gb243) ∧ (gb255 ≠ s_) ∧ (s_ ≠ gb255) ∧ (Below w.heap.size w w')) ?_ ?_
                    rotate_left
                    · intro hCont
                      refine two_ (i := 6) (j := 10) (Ni := some 82) (Nj := some 14) #[true, true, true, true, true, true, true, false, false, false, false, false, false] #[true, true, true, true, true, true, false, false, false, false, true, false, false] rfl rfl rfl rfl (two_of HT_.out (by kernel_rfl)) (by decide) (by decide) (fun K hK => ?_) (fun K hK => ?_)
                      · skip
                        refine goes_ Try.func25 (by kernel_rfl) rfl #[.slice Ao13 y256.length co13, .slice Ao14 y260.length co14] (by rfl) rfl rfl (by (try simp only [List.map_toArray, List.map_cons, List.map_nil]); first | done | rfl | (simp only [List.length_drop, List.length_take]; rfl) | (simp only [KY40.out, KY41.out, KY49.out, KY50.out, KY58.out, KY59.out]; rfl) | (simp [KY40.out, KY41.out, KY49.out, KY50.out, KY58.out, KY59.out]; done)) ?_
                        with_reducible refine (spec_PowerOf.calls kj9 _ _ y256 _ _ y260 t264 t265 t266 _ ?side1 ?side2 ?side3 ?side4 A37.out).mono ?_
                        (case side1 => repeat (first | exact (by repeat (first | (with_reducible exact HR259.out) | (with_reducible refine Kd.C_alloc ?_ _) | (with_reducible refine Kd.C_drewN ?_ _) | (with_reducible refine Kd.C_drew ?_) | exact HR259.out)) | (with_reducible refine Kd.C_alloc ?_ _) | (with_reducible refine Kd.C_drewN ?_ _) | (with_reducible refine Kd.C_drew ?_)))
                        (case side2 => exact HC259.out)
                        (case side3 => repeat (first | exact (by repeat (first | (with_reducible exact HR263.out) | (with_reducible refine Kd.C_alloc ?_ _) | (with_reducible refine Kd.C_drewN ?_ _) | (with_reducible refine Kd.C_drew ?_) | exact HR263.out)) | (with_reducible refine Kd.C_alloc ?_ _) | (with_reducible refine Kd.C_drewN ?_ _) | (with_reducible refine Kd.C_drew ?_)))
                        (case side4 => exact HC263.out)
                        rintro e w60 ⟨rfl, hb⟩
                        refine ⟨_, rfl, ?_⟩
                        have n0_ := Aside0.mk (Kd.R_below (by (with_reducible repeat (first | apply Kd.R_alloc | apply Kd.R_drewN | apply Kd.R_drew)); exact HO_5.out) hb)
                        have n1_ := Aside0.mk (Kd.R_below (by (with_reducible repeat (first | apply Kd.R_alloc | apply Kd.R_drewN | apply Kd.R_drew)); exact HO_6.out) hb)
                        have n2_ := Aside0.mk (blk_below (g := gb231) (o := .cells #[.float .f64 t228, .float .f64 t229] 61 (0, 0)) (by (with_reducible repeat (first | refine blk_drewN ?_ _ | refine blk_drew ?_ | refine blk_alloc ?_ _)); exact BK231.out) hb)
                        have n3_ := Aside0.mk (blk_below (g := gb243) (o := .cells #[.float .f64 t240, .float .f64 t241] 61 (0, 0)) (by (with_reducible repeat (first | refine blk_drewN ?_ _ | refine blk_drew ?_ | refine blk_alloc ?_ _)); exact BK243.out) hb)
                        have n4_ := Aside0.mk (blk_below (g := gb255) (o := .cells #[.float .f64 t252, .float .f64 t253] 61 (0, 0)) (by (with_reducible repeat (first | refine blk_drewN ?_ _ | refine blk_drew ?_ | refine blk_alloc ?_ _)); exact BK255.out) hb)
                        have n5_ := Aside0.mk (Kd.C_below (by repeat (first | (with_reducible exact HR259.out) | (with_reducible refine Kd.C_alloc ?_ _) | (with_reducible refine Kd.C_drewN ?_ _) | (with_reducible refine Kd.C_drew ?_) | exact HR259.out)) hb)
                        have n6_ := Aside0.mk (Kd.C_below (by repeat (first | (with_reducible exact HR263.out) | (with_reducible refine Kd.C_alloc ?_ _) | (with_reducible refine Kd.C_drewN ?_ _) | (with_reducible refine Kd.C_drew ?_) | exact HR263.out)) hb)
                        have n7_ := Aside0.mk (below_step (by repeat (first | (with_reducible first | exact HB.out | apply below_alloc | apply pw_below_drewN | apply below_drew1 | refine below_set ?_ GE231.out | refine below_set ?_ GE243.out | refine below_set ?_ GE255.out) | exact HB.out)) hb)
                        clear HO_5
                        clear HO_6
                        clear BK231
                        clear BK243
                        clear BK255
                        clear HR259
                        clear HR263
                        clear HB
                        have HO_5 := n0_
                        have HO_6 := n1_
                        have BK231 := n2_
                        have BK243 := n3_
                        have BK255 := n4_
                        have HR259 := n5_
                        have HR263 := n6_
                        have HB := n7_
                        clear n0_ n1_ n2_ n3_ n4_ n5_ n6_ n7_
                        (try clear hb)
                        (try clear hb2)
                        (try clear hk)
                        (try clear hi)
                        refine hK.out _ _ trivial (fun hHeld => ?_)
                        clear hK K
                        refine norm_ (a' := ?_) ?_ ?_
                        rotate_left
                        · show Act.put _ (some 82) _ = _
                          simp only [Act.put, List.setIfInBounds_toArray, List.set_cons_zero, List.set_cons_succ, i64_w, i32_w]
                          rfl
                        refine pure_ (i := 7) (N := some 75) (v := ?_) (a' := ?_) #[true, true, true, true, true, true, true, true, false, false, false, false, false] rfl rfl (any_of HT_.out (by kernel_rfl)) (fun _ _ _ h => h) (Or.inl ⟨by rfl, ?_⟩) ?_ ?_
                        rotate_left
                        · intro w'
                          go_simp
                          with_reducible rfl
                        rotate_left
                        · simp only [Act.put, List.setIfInBounds_toArray, List.set_cons_zero, List.set_cons_succ, i64_w, i32_w]
                          rfl
                        refine pure_ (i := 8) (N := some 83) (v := ?_) (a' := ?_) #[true, true, true, true, true, true, true, true, true, false, false, false, false] rfl rfl (any_of HT_.out (by kernel_rfl)) (fun _ _ _ h => h) (Or.inl ⟨by rfl, ?_⟩) ?_ ?_
                        rotate_left
                        · intro w'
                          go_simp
                          with_reducible rfl
                        rotate_left
                        · simp only [Act.put, List.setIfInBounds_toArray, List.set_cons_zero, List.set_cons_succ, i64_w, i32_w]
                          rfl
                        refine pure_ (i := 9) (N := some 84) (v := ?_) (a' := ?_) #[true, true, true, true, true, true, true, true, true, true, false, false, false] rfl rfl (any_of HT_.out (by kernel_rfl)) (fun _ _ _ h => h) (Or.inl ⟨by rfl, ?_⟩) ?_ ?_
                        rotate_left
                        · intro w'
                          go_simp
                          with_reducible rfl
                        rotate_left
                        · simp only [Act.put, List.setIfInBounds_toArray, List.set_cons_zero, List.set_cons_succ, i64_w, i32_w]
                          rfl
                        refine one_ (i := 10) (N := some 14) #[true, true, true, true, true, true, true, true, true, true, true, false, false] rfl rfl (one_of HT_.out (by kernel_rfl)) (by decide) (fun K hK => ?_)
                        refine box_step ?hg (N := 14) ?hd (cs := #[.float .f64 0, .float .f64 0]) (t := 61) ?hr ?_; (case hd => rfl); (case hg => rfl); (case hr => first | (go_simp; done) | (go_simp; rfl))
                        intro gb267 hg w61 hbox hb
                        have n0_ := Aside0.mk (Kd.R_below (Kd.R_elderB (by (with_reducible repeat (first | apply Kd.R_alloc | apply Kd.R_drewN | apply Kd.R_drew)); exact HO_5.out) gb267 (Nat.le_of_eq hg.symm)) hb)
                        have n1_ := Aside0.mk (Kd.R_below (Kd.R_elderB (by (with_reducible repeat (first | apply Kd.R_alloc | apply Kd.R_drewN | apply Kd.R_drew)); exact HO_6.out) gb267 (Nat.le_of_eq hg.symm)) hb)
                        have n2_ := Aside0.mk (blk_below (g := gb231) (o := .cells #[.float .f64 t228, .float .f64 t229] 61 (0, 0)) (by (with_reducible repeat (first | refine blk_drewN ?_ _ | refine blk_drew ?_ | refine blk_alloc ?_ _)); exact BK231.out) hb)
                        have n3_ := Aside0.mk (blk_below (g := gb243) (o := .cells #[.float .f64 t240, .float .f64 t241] 61 (0, 0)) (by (with_reducible repeat (first | refine blk_drewN ?_ _ | refine blk_drew ?_ | refine blk_alloc ?_ _)); exact BK243.out) hb)
                        have n4_ := Aside0.mk (blk_below (g := gb255) (o := .cells #[.float .f64 t252, .float .f64 t253] 61 (0, 0)) (by (with_reducible repeat (first | refine blk_drewN ?_ _ | refine blk_drew ?_ | refine blk_alloc ?_ _)); exact BK255.out) hb)
                        have n5_ := Aside0.mk (Kd.C_below (by repeat (first | (with_reducible exact HR259.out) | (with_reducible refine Kd.C_alloc ?_ _) | (with_reducible refine Kd.C_drewN ?_ _) | (with_reducible refine Kd.C_drew ?_) | exact HR259.out)) hb)
                        have n6_ := Aside0.mk (Kd.C_below (by repeat (first | (with_reducible exact HR263.out) | (with_reducible refine Kd.C_alloc ?_ _) | (with_reducible refine Kd.C_drewN ?_ _) | (with_reducible refine Kd.C_drew ?_) | exact HR263.out)) hb)
                        have n7_ := Aside0.mk (below_step (by repeat (first | (with_reducible first | exact HB.out | apply below_alloc | apply pw_below_drewN | apply below_drew1 | refine below_set ?_ GE231.out | refine below_set ?_ GE243.out | refine below_set ?_ GE255.out) | exact HB.out)) hb)
                        have n8_ := Aside0.mk (hbox)
                        have n9_ := Aside0.mk ((by rw [hg]; exact (below_size (by repeat (first | (with_reducible first | exact HB.out | apply below_alloc | apply pw_below_drewN | apply below_drew1 | refine below_set ?_ GE231.out | refine below_set ?_ GE243.out | refine below_set ?_ GE255.out) | exact HB.out))) : w.heap.size ≤ gb267))
                        have n10_ := Aside0.mk ((by rw [hg]; exact (below_size (by repeat (first | (with_reducible first | exact HB.out | apply below_alloc | apply pw_below_drewN | apply below_drew1 | refine below_set ?_ GE231.out | refine below_set ?_ GE243.out | refine below_set ?_ GE255.out) | exact HB.out))) : w.heap.size ≤ gb267))
                        have n11_ := Aside0.mk ((by rw [hg]; exact Nat.ne_of_lt (blk_lt (g := gb231) (o := .cells #[.float .f64 t228, .float .f64 t229] 61 (0, 0)) (by (with_reducible repeat (first | refine blk_drewN ?_ _ | refine blk_drew ?_ | refine blk_alloc ?_ _)); exact BK231.out)) : gb231 ≠ gb267))
                        have n12_ := Aside0.mk ((by rw [hg]; exact Nat.ne_of_gt (blk_lt (g := gb231) (o := .cells #[.float .f64 t228, .float .f64 t229] 61 (0, 0)) (by (with_reducible repeat (first | refine blk_drewN ?_ _ | refine blk_drew ?_ | refine blk_alloc ?_ _)); exact BK231.out)) : gb267 ≠ gb231))
                        have n13_ := Aside0.mk ((by rw [hg]; exact Nat.ne_of_lt (blk_lt (g := gb243) (o := .cells #[.float .f64 t240, .float .f64 t241] 61 (0, 0)) (by (with_reducible repeat (first | refine blk_drewN ?_ _ | refine blk_drew ?_ | refine blk_alloc ?_ _)); exact BK243.out)) : gb243 ≠ gb267))
                        have n14_ := Aside0.mk ((by rw [hg]; exact Nat.ne_of_gt (blk_lt (g := gb243) (o := .cells #[.float .f64 t240, .float .f64 t241] 61 (0, 0)) (by (with_reducible repeat (first | refine blk_drewN ?_ _ | refine blk_drew ?_ | refine blk_alloc ?_ _)); exact BK243.out)) : gb267 ≠ gb243))
                        have n15_ := Aside0.mk ((by rw [hg]; exact Nat.ne_of_lt (blk_lt (g := gb255) (o := .cells #[.float .f64 t252, .float .f64 t253] 61 (0, 0)) (by (with_reducible repeat (first | refine blk_drewN ?_ _ | refine blk_drew ?_ | refine blk_alloc ?_ _)); exact BK255.out)) : gb255 ≠ gb267))
                        have n16_ := Aside0.mk ((by rw [hg]; exact Nat.ne_of_gt (blk_lt (g := gb255) (o := .cells #[.float .f64 t252, .float .f64 t253] 61 (0, 0)) (by (with_reducible repeat (first | refine blk_drewN ?_ _ | refine blk_drew ?_ | refine blk_alloc ?_ _)); exact BK255.out)) : gb267 ≠ gb255))
                        clear HO_5
                        clear HO_6
                        clear BK231
                        clear BK243
                        clear BK255
                        clear HR259
                        clear HR263
                        clear HB
                        have HO_5 := n0_
                        have HO_6 := n1_
                        have BK231 := n2_
                        have BK243 := n3_
                        have BK255 := n4_
                        have HR259 := n5_
                        have HR263 := n6_
                        have HB := n7_
                        have BK267 := n8_
                        have GW267 := n9_
                        have GE267 := n10_
                        have NB231_267 := n11_
                        have NB267_231 := n12_
                        have NB243_267 := n13_
                        have NB267_243 := n14_
                        have NB255_267 := n15_
                        have NB267_255 := n16_
                        clear n0_ n1_ n2_ n3_ n4_ n5_ n6_ n7_ n8_ n9_ n10_ n11_ n12_ n13_ n14_ n15_ n16_
                        clear hb hbox hg
                        refine hK.out _ _ trivial (fun hHeld => ?_)
                        clear hK K
                        refine norm_ (a' := ?_) ?_ ?_
                        rotate_left
                        · show Act.put _ (some 14) _ = _
                          simp only [Act.put, List.setIfInBounds_toArray, List.set_cons_zero, List.set_cons_succ, i64_w, i32_w]
                          rfl
                        exact norm_ (by simp only [putAll, Act.put, List.setIfInBounds_toArray, List.set_cons_zero, List.set_cons_succ]) (hCont (gb267) _ ⟨(by (with_reducible repeat (first | apply Kd.R_alloc | apply Kd.R_drewN | apply Kd.R_drew)); exact Kd.R_mono HO_5.out (fun _ hk => ⟨hk.1.1, ⟨hk.1.2.1, ⟨hk.1.2.2.1, ⟨hk.1.2.2.2, hk.2⟩⟩⟩⟩)), (by (with_reducible repeat (first | apply Kd.R_alloc | apply Kd.R_drewN | apply Kd.R_drew)); exact Kd.R_mono HO_6.out (fun _ hk => ⟨hk.1.1, ⟨hk.1.2.1, ⟨hk.1.2.2.1, ⟨hk.1.2.2.2, hk.2⟩⟩⟩⟩)), (by (with_reducible repeat (first | refine blk_drewN ?_ _ | refine blk_drew ?_ | refine blk_alloc ?_ _)); exact BK231.out), (by (with_reducible repeat (first | refine blk_drewN ?_ _ | refine blk_drew ?_ | refine blk_alloc ?_ _)); exact BK243.out), (by (with_reducible repeat (first | refine blk_drewN ?_ _ | refine blk_drew ?_ | refine blk_alloc ?_ _)); exact BK255.out), (by (with_reducible repeat (first | refine blk_drewN ?_ _ | refine blk_drew ?_ | refine blk_alloc ?_ _)); exact BK267.out), GW267.out, GE267.out, NB231_267.out, NB267_231.out, NB243_267.out, NB267_243.out, NB255_267.out, NB267_255.out, (by repeat (first | (with_reducible first | exact HB.out | apply below_alloc | apply pw_below_drewN | apply below_drew1 | refine below_set ?_ GE231.out | refine below_set ?_ GE243.out | refine below_set ?_ GE255.out | refine below_set ?_ GE267.out) | exact HB.out))⟩)
                      · skip
                        refine box_step ?hg (N := 14) ?hd (cs := #[.float .f64 0, .float .f64 0]) (t := 61) ?hr ?_; (case hd => rfl); (case hg => rfl); (case hr => first | (go_simp; done) | (go_simp; rfl))
                        intro gb267 hg w60 hbox hb
                        have n0_ := Aside0.mk (Kd.R_below (Kd.R_elderB (by (with_reducible repeat (first | apply Kd.R_alloc | apply Kd.R_drewN | apply Kd.R_drew)); exact HO_5.out) gb267 (Nat.le_of_eq hg.symm)) hb)
                        have n1_ := Aside0.mk (Kd.R_below (Kd.R_elderB (by (with_reducible repeat (first | apply Kd.R_alloc | apply Kd.R_drewN | apply Kd.R_drew)); exact HO_6.out) gb267 (Nat.le_of_eq hg.symm)) hb)
                        have n2_ := Aside0.mk (blk_below (g := gb231) (o := .cells #[.float .f64 t228, .float .f64 t229] 61 (0, 0)) (by (with_reducible repeat (first | refine blk_drewN ?_ _ | refine blk_drew ?_ | refine blk_alloc ?_ _)); exact BK231.out) hb)
                        have n3_ := Aside0.mk (blk_below (g := gb243) (o := .cells #[.float .f64 t240, .float .f64 t241] 61 (0, 0)) (by (with_reducible repeat (first | refine blk_drewN ?_ _ | refine blk_drew ?_ | refine blk_alloc ?_ _)); exact BK243.out) hb)
                        have n4_ := Aside0.mk (blk_below (g := gb255) (o := .cells #[.float .f64 t252, .float .f64 t253] 61 (0, 0)) (by (with_reducible repeat (first | refine blk_drewN ?_ _ | refine blk_drew ?_ | refine blk_alloc ?_ _)); exact BK255.out) hb)
                        have n5_ := Aside0.mk (Kd.C_below (by repeat (first | (with_reducible exact HR259.out) | (with_reducible refine Kd.C_alloc ?_ _) | (with_reducible refine Kd.C_drewN ?_ _) | (with_reducible refine Kd.C_drew ?_) | exact HR259.out)) hb)
                        have n6_ := Aside0.mk (Kd.C_below (by repeat (first | (with_reducible exact HR263.out) | (with_reducible refine Kd.C_alloc ?_ _) | (with_reducible refine Kd.C_drewN ?_ _) | (with_reducible refine Kd.C_drew ?_) | exact HR263.out)) hb)
                        have n7_ := Aside0.mk (below_step (by repeat (first | (with_reducible first | exact HB.out | apply below_alloc | apply pw_below_drewN | apply below_drew1 | refine below_set ?_ GE231.out | refine below_set ?_ GE243.out | refine below_set ?_ GE255.out) | exact HB.out)) hb)
                        have n8_ := Aside0.mk (hbox)
                        have n9_ := Aside0.mk ((by rw [hg]; exact (below_size (by repeat (first | (with_reducible first | exact HB.out | apply below_alloc | apply pw_below_drewN | apply below_drew1 | refine below_set ?_ GE231.out | refine below_set ?_ GE243.out | refine below_set ?_ GE255.out) | exact HB.out))) : w.heap.size ≤ gb267))
                        have n10_ := Aside0.mk ((by rw [hg]; exact (below_size (by repeat (first | (with_reducible first | exact HB.out | apply below_alloc | apply pw_below_drewN | apply below_drew1 | refine below_set ?_ GE231.out | refine below_set ?_ GE243.out | refine below_set ?_ GE255.out) | exact HB.out))) : w.heap.size ≤ gb267))
                        have n11_ := Aside0.mk ((by rw [hg]; exact Nat.ne_of_lt (blk_lt (g := gb231) (o := .cells #[.float .f64 t228, .float .f64 t229] 61 (0, 0)) (by (with_reducible repeat (first | refine blk_drewN ?_ _ | refine blk_drew ?_ | refine blk_alloc ?_ _)); exact BK231.out)) : gb231 ≠ gb267))
                        have n12_ := Aside0.mk ((by rw [hg]; exact Nat.ne_of_gt (blk_lt (g := gb231) (o := .cells #[.float .f64 t228, .float .f64 t229] 61 (0, 0)) (by (with_reducible repeat (first | refine blk_drewN ?_ _ | refine blk_drew ?_ | refine blk_alloc ?_ _)); exact BK231.out)) : gb267 ≠ gb231))
                        have n13_ := Aside0.mk ((by rw [hg]; exact Nat.ne_of_lt (blk_lt (g := gb243) (o := .cells #[.float .f64 t240, .float .f64 t241] 61 (0, 0)) (by (with_reducible repeat (first | refine blk_drewN ?_ _ | refine blk_drew ?_ | refine blk_alloc ?_ _)); exact BK243.out)) : gb243 ≠ gb267))
                        have n14_ := Aside0.mk ((by rw [hg]; exact Nat.ne_of_gt (blk_lt (g := gb243) (o := .cells #[.float .f64 t240, .float .f64 t241] 61 (0, 0)) (by (with_reducible repeat (first | refine blk_drewN ?_ _ | refine blk_drew ?_ | refine blk_alloc ?_ _)); exact BK243.out)) : gb267 ≠ gb243))
                        have n15_ := Aside0.mk ((by rw [hg]; exact Nat.ne_of_lt (blk_lt (g := gb255) (o := .cells #[.float .f64 t252, .float .f64 t253] 61 (0, 0)) (by (with_reducible repeat (first | refine blk_drewN ?_ _ | refine blk_drew ?_ | refine blk_alloc ?_ _)); exact BK255.out)) : gb255 ≠ gb267))
                        have n16_ := Aside0.mk ((by rw [hg]; exact Nat.ne_of_gt (blk_lt (g := gb255) (o := .cells #[.float .f64 t252, .float .f64 t253] 61 (0, 0)) (by (with_reducible repeat (first | refine blk_drewN ?_ _ | refine blk_drew ?_ | refine blk_alloc ?_ _)); exact BK255.out)) : gb267 ≠ gb255))
                        clear HO_5
                        clear HO_6
                        clear BK231
                        clear BK243
                        clear BK255
                        clear HR259
                        clear HR263
                        clear HB
                        have HO_5 := n0_
                        have HO_6 := n1_
                        have BK231 := n2_
                        have BK243 := n3_
                        have BK255 := n4_
                        have HR259 := n5_
                        have HR263 := n6_
                        have HB := n7_
                        have BK267 := n8_
                        have GW267 := n9_
                        have GE267 := n10_
                        have NB231_267 := n11_
                        have NB267_231 := n12_
                        have NB243_267 := n13_
                        have NB267_243 := n14_
                        have NB255_267 := n15_
                        have NB267_255 := n16_
                        clear n0_ n1_ n2_ n3_ n4_ n5_ n6_ n7_ n8_ n9_ n10_ n11_ n12_ n13_ n14_ n15_ n16_
                        clear hb hbox hg
                        refine hK.out _ _ trivial (fun hHeld => ?_)
                        clear hK K
                        refine norm_ (a' := ?_) ?_ ?_
                        rotate_left
                        · show Act.put _ (some 14) _ = _
                          simp only [Act.put, List.setIfInBounds_toArray, List.set_cons_zero, List.set_cons_succ, i64_w, i32_w]
                          rfl
                        refine one_ (i := 6) (N := some 82) #[true, true, true, true, true, true, true, false, false, false, true, false, false] rfl rfl (one_of HT_.out (by kernel_rfl)) (by decide) (fun K hK => ?_)
                        refine goes_ Try.func25 (by kernel_rfl) rfl #[.slice Ao13 y256.length co13, .slice Ao14 y260.length co14] (by rfl) rfl rfl (by (try simp only [List.map_toArray, List.map_cons, List.map_nil]); first | done | rfl | (simp only [List.length_drop, List.length_take]; rfl) | (simp only [KY40.out, KY41.out, KY49.out, KY50.out, KY58.out, KY59.out]; rfl) | (simp [KY40.out, KY41.out, KY49.out, KY50.out, KY58.out, KY59.out]; done)) ?_
                        with_reducible refine (spec_PowerOf.calls kj9 _ _ y256 _ _ y260 t264 t265 t266 _ ?side1 ?side2 ?side3 ?side4 A37.out).mono ?_
                        (case side1 => repeat (first | exact (by repeat (first | (with_reducible exact HR259.out) | (with_reducible refine Kd.C_alloc ?_ _) | (with_reducible refine Kd.C_drewN ?_ _) | (with_reducible refine Kd.C_drew ?_) | exact HR259.out)) | (with_reducible refine Kd.C_alloc ?_ _) | (with_reducible refine Kd.C_drewN ?_ _) | (with_reducible refine Kd.C_drew ?_)))
                        (case side2 => exact HC259.out)
                        (case side3 => repeat (first | exact (by repeat (first | (with_reducible exact HR263.out) | (with_reducible refine Kd.C_alloc ?_ _) | (with_reducible refine Kd.C_drewN ?_ _) | (with_reducible refine Kd.C_drew ?_) | exact HR263.out)) | (with_reducible refine Kd.C_alloc ?_ _) | (with_reducible refine Kd.C_drewN ?_ _) | (with_reducible refine Kd.C_drew ?_)))
                        (case side4 => exact HC263.out)
                        rintro e w61 ⟨rfl, hb⟩
                        refine ⟨_, rfl, ?_⟩
                        have n0_ := Aside0.mk (Kd.R_below (by (with_reducible repeat (first | apply Kd.R_alloc | apply Kd.R_drewN | apply Kd.R_drew)); exact HO_5.out) hb)
                        have n1_ := Aside0.mk (Kd.R_below (by (with_reducible repeat (first | apply Kd.R_alloc | apply Kd.R_drewN | apply Kd.R_drew)); exact HO_6.out) hb)
                        have n2_ := Aside0.mk (blk_below (g := gb231) (o := .cells #[.float .f64 t228, .float .f64 t229] 61 (0, 0)) (by (with_reducible repeat (first | refine blk_drewN ?_ _ | refine blk_drew ?_ | refine blk_alloc ?_ _)); exact BK231.out) hb)
                        have n3_ := Aside0.mk (blk_below (g := gb243) (o := .cells #[.float .f64 t240, .float .f64 t241] 61 (0, 0)) (by (with_reducible repeat (first | refine blk_drewN ?_ _ | refine blk_drew ?_ | refine blk_alloc ?_ _)); exact BK243.out) hb)
                        have n4_ := Aside0.mk (blk_below (g := gb255) (o := .cells #[.float .f64 t252, .float .f64 t253] 61 (0, 0)) (by (with_reducible repeat (first | refine blk_drewN ?_ _ | refine blk_drew ?_ | refine blk_alloc ?_ _)); exact BK255.out) hb)
                        have n5_ := Aside0.mk (Kd.C_below (by repeat (first | (with_reducible exact HR259.out) | (with_reducible refine Kd.C_alloc ?_ _) | (with_reducible refine Kd.C_drewN ?_ _) | (with_reducible refine Kd.C_drew ?_) | exact HR259.out)) hb)
                        have n6_ := Aside0.mk (Kd.C_below (by repeat (first | (with_reducible exact HR263.out) | (with_reducible refine Kd.C_alloc ?_ _) | (with_reducible refine Kd.C_drewN ?_ _) | (with_reducible refine Kd.C_drew ?_) | exact HR263.out)) hb)
                        have n7_ := Aside0.mk (blk_below (g := gb267) (o := .cells #[.float .f64 0, .float .f64 0] 61 (0, 0)) (by (with_reducible repeat (first | refine blk_drewN ?_ _ | refine blk_drew ?_ | refine blk_alloc ?_ _)); exact BK267.out) hb)
                        have n8_ := Aside0.mk (below_step (by repeat (first | (with_reducible first | exact HB.out | apply below_alloc | apply pw_below_drewN | apply below_drew1 | refine below_set ?_ GE231.out | refine below_set ?_ GE243.out | refine below_set ?_ GE255.out | refine below_set ?_ GE267.out) | exact HB.out)) hb)
                        clear HO_5
                        clear HO_6
                        clear BK231
                        clear BK243
                        clear BK255
                        clear HR259
                        clear HR263
                        clear BK267
                        clear HB
                        have HO_5 := n0_
                        have HO_6 := n1_
                        have BK231 := n2_
                        have BK243 := n3_
                        have BK255 := n4_
                        have HR259 := n5_
                        have HR263 := n6_
                        have BK267 := n7_
                        have HB := n8_
                        clear n0_ n1_ n2_ n3_ n4_ n5_ n6_ n7_ n8_
                        (try clear hb)
                        (try clear hb2)
                        (try clear hk)
                        (try clear hi)
                        refine hK.out _ _ trivial (fun hHeld => ?_)
                        clear hK K
                        refine norm_ (a' := ?_) ?_ ?_
                        rotate_left
                        · show Act.put _ (some 82) _ = _
                          simp only [Act.put, List.setIfInBounds_toArray, List.set_cons_zero, List.set_cons_succ, i64_w, i32_w]
                          rfl
                        refine pure_ (i := 7) (N := some 75) (v := ?_) (a' := ?_) #[true, true, true, true, true, true, true, true, false, false, true, false, false] rfl rfl (any_of HT_.out (by kernel_rfl)) (fun _ _ _ h => h) (Or.inl ⟨by rfl, ?_⟩) ?_ ?_
                        rotate_left
                        · intro w'
                          go_simp
                          with_reducible rfl
                        rotate_left
                        · simp only [Act.put, List.setIfInBounds_toArray, List.set_cons_zero, List.set_cons_succ, i64_w, i32_w]
                          rfl
                        refine pure_ (i := 8) (N := some 83) (v := ?_) (a' := ?_) #[true, true, true, true, true, true, true, true, true, false, true, false, false] rfl rfl (any_of HT_.out (by kernel_rfl)) (fun _ _ _ h => h) (Or.inl ⟨by rfl, ?_⟩) ?_ ?_
                        rotate_left
                        · intro w'
                          go_simp
                          with_reducible rfl
                        rotate_left
                        · simp only [Act.put, List.setIfInBounds_toArray, List.set_cons_zero, List.set_cons_succ, i64_w, i32_w]
                          rfl
                        refine pure_ (i := 9) (N := some 84) (v := ?_) (a' := ?_) #[true, true, true, true, true, true, true, true, true, true, true, false, false] rfl rfl (any_of HT_.out (by kernel_rfl)) (fun _ _ _ h => h) (Or.inl ⟨by rfl, ?_⟩) ?_ ?_
                        rotate_left
                        · intro w'
                          go_simp
                          with_reducible rfl
                        rotate_left
                        · simp only [Act.put, List.setIfInBounds_toArray, List.set_cons_zero, List.set_cons_succ, i64_w, i32_w]
                          rfl
                        exact norm_ (by simp only [putAll, Act.put, List.setIfInBounds_toArray, List.set_cons_zero, List.set_cons_succ]) (hCont (gb267) _ ⟨(by (with_reducible repeat (first | apply Kd.R_alloc | apply Kd.R_drewN | apply Kd.R_drew)); exact Kd.R_mono HO_5.out (fun _ hk => ⟨hk.1.1, ⟨hk.1.2.1, ⟨hk.1.2.2.1, ⟨hk.1.2.2.2, hk.2⟩⟩⟩⟩)), (by (with_reducible repeat (first | apply Kd.R_alloc | apply Kd.R_drewN | apply Kd.R_drew)); exact Kd.R_mono HO_6.out (fun _ hk => ⟨hk.1.1, ⟨hk.1.2.1, ⟨hk.1.2.2.1, ⟨hk.1.2.2.2, hk.2⟩⟩⟩⟩)), (by (with_reducible repeat (first | refine blk_drewN ?_ _ | refine blk_drew ?_ | refine blk_alloc ?_ _)); exact BK231.out), (by (with_reducible repeat (first | refine blk_drewN ?_ _ | refine blk_drew ?_ | refine blk_alloc ?_ _)); exact BK243.out), (by (with_reducible repeat (first | refine blk_drewN ?_ _ | refine blk_drew ?_ | refine blk_alloc ?_ _)); exact BK255.out), (by (with_reducible repeat (first | refine blk_drewN ?_ _ | refine blk_drew ?_ | refine blk_alloc ?_ _)); exact BK267.out), GW267.out, GE267.out, NB231_267.out, NB267_231.out, NB243_267.out, NB267_243.out, NB255_267.out, NB267_255.out, (by repeat (first | (with_reducible first | exact HB.out | apply below_alloc | apply pw_below_drewN | apply below_drew1 | refine below_set ?_ GE231.out | refine below_set ?_ GE243.out | refine below_set ?_ GE255.out | refine below_set ?_ GE267.out) | exact HB.out))⟩)
                    rintro gb267 w62 ⟨h0_, h1_, h2_, h3_, h4_, h5_, h6_, h7_, h8_, h9_, h10_, h11_, h12_, h13_, h14_⟩
                    have n0_ : Aside0 (Kd.R k61 61 w62 w.heap.size (fun k_ => some k_ ≠ (.slice Ao14 t225.length co14 : Value).ownBlock ∧ k_ ≠ gb231 ∧ k_ ≠ gb243 ∧ k_ ≠ gb255 ∧ k_ ≠ gb267) (.slice Ao13 t222.length co13) t222) := ⟨h0_⟩
                    have n1_ : Aside0 (Kd.R k61 61 w62 w.heap.size (fun k_ => some k_ ≠ (.slice Ao13 t222.length co13 : Value).ownBlock ∧ k_ ≠ gb231 ∧ k_ ≠ gb243 ∧ k_ ≠ gb255 ∧ k_ ≠ gb267) (.slice Ao14 t225.length co14) t225) := ⟨h1_⟩
                    have n2_ : Aside0 (w62.heap[gb231]? = some (.cells #[.float .f64 t228, .float .f64 t229] 61 (0, 0))) := ⟨h2_⟩
                    have n3_ : Aside0 (w62.heap[gb243]? = some (.cells #[.float .f64 t240, .float .f64 t241] 61 (0, 0))) := ⟨h3_⟩
                    have n4_ : Aside0 (w62.heap[gb255]? = some (.cells #[.float .f64 t252, .float .f64 t253] 61 (0, 0))) := ⟨h4_⟩
                    have n5_ : Aside0 (w62.heap[gb267]? = some (.cells #[.float .f64 0, .float .f64 0] 61 (0, 0))) := ⟨h5_⟩
                    have n6_ : Aside0 (w.heap.size ≤ gb267) := ⟨h6_⟩
                    have n7_ : Aside0 (w.heap.size ≤ gb267) := ⟨h7_⟩
                    have n8_ : Aside0 (gb231 ≠ gb267) := ⟨h8_⟩
                    have n9_ : Aside0 (gb267 ≠ gb231) := ⟨h9_⟩
                    have n10_ : Aside0 (gb243 ≠ gb267) := ⟨h10_⟩
                    have n11_ : Aside0 (gb267 ≠ gb243) := ⟨h11_⟩
                    have n12_ : Aside0 (gb255 ≠ gb267) := ⟨h12_⟩
                    have n13_ : Aside0 (gb267 ≠ gb255) := ⟨h13_⟩
                    have n14_ : Aside0 (Below w.heap.size w w62) := ⟨h14_⟩
                    clear HO_5
                    clear HO_6
                    clear BK231
                    clear BK243
                    clear BK255
                    clear HB
                    clear h0_ h1_ h2_ h3_ h4_ h5_ h6_ h7_ h8_ h9_ h10_ h11_ h12_ h13_ h14_
                    have HO_5 := n0_
                    have HO_6 := n1_
                    have BK231 := n2_
                    have BK243 := n3_
                    have BK255 := n4_
                    have BK267 := n5_
                    have GW267 := n6_
                    have GE267 := n7_
                    have NB231_267 := n8_
                    have NB267_231 := n9_
                    have NB243_267 := n10_
                    have NB267_243 := n11_
                    have NB255_267 := n12_
                    have NB267_255 := n13_
                    have HB := n14_
                    clear n0_ n1_ n2_ n3_ n4_ n5_ n6_ n7_ n8_ n9_ n10_ n11_ n12_ n13_ n14_
                    have hHeld := trivial
                    refine norm_ (a' := ?_) ?_ ?_
                    rotate_left
                    · simp only [putAll, Act.put, List.setIfInBounds_toArray, List.set_cons_zero, List.set_cons_succ]
                      rfl
                    refine one_ (i := 11) (N := none) #[true, true, true, true, true, true, true, true, true, true, true, true, false] rfl rfl (one_of HT_.out (by kernel_rfl)) (by decide) (fun K hK => ?_)
                    have hs63 : w62.cell? ⟨gb267, 0, none⟩ = some (.float .f64 0) := (blk_cell BK267.out 0).trans rfl
                    have hfs63 := blk_frozen BK267.out 0
                    have hns63_0 := NB231_267.out
                    have hns63_1 := NB243_267.out
                    have hns63_2 := NB255_267.out
                    have hms63_0 := NB267_231.out
                    have hms63_1 := NB267_243.out
                    have hms63_2 := NB267_255.out
                    have hs64 : w62.cell? ⟨gb267, 1, none⟩ = some (.float .f64 0) := (blk_cell BK267.out 1).trans rfl
                    have hfs64 := blk_frozen BK267.out 1
                    have hns64_0 := NB231_267.out
                    have hns64_1 := NB243_267.out
                    have hns64_2 := NB255_267.out
                    have hms64_0 := NB267_231.out
                    have hms64_1 := NB267_243.out
                    have hms64_2 := NB267_255.out
                    refine skip_ (w1 := ?_) (by rfl) rfl ?_ ?_
                    rotate_left
                    · go_simp
                      rfl
                    refine hK.out _ _ trivial (fun hHeld => ?_)
                    clear hK K
                    refine pure_ (i := 12) (N := some 15) (v := ?_) (a' := ?_) #[true, true, true, true, true, true, true, true, true, true, true, true, true] rfl rfl (any_of HT_.out (by kernel_rfl)) (fun _ _ _ h => h) (Or.inl ⟨by rfl, ?_⟩) ?_ ?_
                    rotate_left
                    · intro w'
                      go_simp
                      with_reducible rfl
                    rotate_left
                    · simp only [Act.put, List.setIfInBounds_toArray, List.set_cons_zero, List.set_cons_succ, i64_w, i32_w]
                      rfl
                    refine done_ (done_of HT_.out (by kernel_rfl)) ?_
                    go_upto_region 12 with (fail)
                    go_cut [110] (fun v110 wc => ∃ (kq : Nat) (x110_37 : Bool), v110 = .bool x110_37 ∧ Aside0 (laws_FnPower.j2 kq t222 x110_37 = some r) ∧ Aside0 (kq ≤ kj9) ∧ Aside0 (Kd.R k61 61 wc w.heap.size (fun k_ => k_ ≠ gb231 ∧ k_ ≠ gb243 ∧ k_ ≠ gb255 ∧ k_ ≠ gb267) (.slice Ao13 t222.length co13) t222) ∧ Aside0 (wc.heap[gb231]? = some (.cells #[.float .f64 t228, .float .f64 t229] 61 (0, 0))) ∧ Aside0 (wc.heap[gb243]? = some (.cells #[.float .f64 t240, .float .f64 t241] 61 (0, 0))) ∧ Aside0 (wc.heap[gb255]? = some (.cells #[.float .f64 t252, .float .f64 t253] 61 (0, 0))) ∧ Aside0 (wc.heap[gb267]? = some (.cells #[.float .f64 t264, .float .f64 t265] 61 (0, 0))) ∧ Aside0 (Below w.heap.size w wc))
                    case first =>
                      have H := HC38.out
                      clear HC38
                      by_cases c65 : t242 = 0
                      · rw [if_pos c65] at H
                        have c65b0 : (t242 == 0) = true := beq_iff_eq.mpr c65
                        have c65b1 : (t242 != 0) = false := bne_eq_false_iff_eq.mpr c65
                        clear c65
                        (first | rw [c65b0] | (simp only [i64_w, i32_w]; rw [c65b0]) | skip)
                        by_cases c66 : t254 = 0
                        · rw [if_pos c66] at H
                          have c66b0 : (t254 == 0) = true := beq_iff_eq.mpr c66
                          have c66b1 : (t254 != 0) = false := bne_eq_false_iff_eq.mpr c66
                          clear c66
                          by_cases c67 : (!(fEq .f64 t240 t264) || (!(fEq .f64 t241 t265))) = true
                          · rw [if_pos c67] at H
                            have c67b0 : (!(fEq .f64 t240 t264) || (!(fEq .f64 t241 t265))) = true := c67
                            clear c67
                            have H' := Aside0.mk H
                            clear H
                            have hnb68 := NB243_231.out
                            have hnc68 := NB231_243.out
                            have hnb69 := NB243_255.out
                            have hnc69 := NB255_243.out
                            have hnb70 := NB243_267.out
                            have hnc70 := NB267_243.out
                            have hcz71_0 : w62.cell? ⟨gb243, 0, none⟩ = some (.float .f64 t240) := (blk_cell BK243.out 0).trans rfl
                            have hcz71_1 : w62.cell? ⟨gb243, 1, none⟩ = some (.float .f64 t241) := (blk_cell BK243.out 1).trans rfl
                            have hfz71_0 := blk_frozen BK243.out 0
                            have hfz71_1 := blk_frozen BK243.out 1
                            have hnb72 := NB267_231.out
                            have hnc72 := NB231_267.out
                            have hnb73 := NB267_255.out
                            have hnc73 := NB255_267.out
                            have hcz74_0 : w62.cell? ⟨gb267, 0, none⟩ = some (.float .f64 0) := (blk_cell BK267.out 0).trans rfl
                            have hcz74_1 : w62.cell? ⟨gb267, 1, none⟩ = some (.float .f64 0) := (blk_cell BK267.out 1).trans rfl
                            have hfz74_0 := blk_frozen BK267.out 0
                            have hfz74_1 := blk_frozen BK267.out 1
                            go_wp2
                            go_meet
                            case rel => exact ⟨_, (true), (by first | rfl | (simp; done) | (simp [*]; done)), H', ⟨by have := HJ2.out; have := HJ9.out; first | omega | exact Nat.le_refl _⟩, ⟨by (with_reducible repeat (first | apply Kd.R_alloc | apply Kd.R_drewN | apply Kd.R_drew)); exact Kd.R_mono (Kd.R_far (p := ⟨gb267, 1, none⟩) (Kd.R_far (p := ⟨gb267, 0, none⟩) (Kd.R_mono HO_5.out (fun k_ hk => (⟨hk, hk.2.2.2.2⟩ : _ ∧ k_ ≠ gb267))) (fun _ hk => hk.2) (.float .f64 t264)) (fun _ hk => hk.2) (.float .f64 t265)) (fun _ hk => ⟨hk.1.2.1, ⟨hk.1.2.2.1, ⟨hk.1.2.2.2.1, hk.1.2.2.2.2⟩⟩⟩)⟩, ⟨by (with_reducible repeat (first | refine blk_drewN ?_ _ | refine blk_drew ?_ | refine blk_alloc ?_ _)); refine blk_far ?_ NB231_267.out _; (with_reducible repeat (first | refine blk_drewN ?_ _ | refine blk_drew ?_ | refine blk_alloc ?_ _)); refine blk_far ?_ NB231_267.out _; (with_reducible repeat (first | refine blk_drewN ?_ _ | refine blk_drew ?_ | refine blk_alloc ?_ _)); exact BK231.out⟩, ⟨by (with_reducible repeat (first | refine blk_drewN ?_ _ | refine blk_drew ?_ | refine blk_alloc ?_ _)); refine blk_far ?_ NB243_267.out _; (with_reducible repeat (first | refine blk_drewN ?_ _ | refine blk_drew ?_ | refine blk_alloc ?_ _)); refine blk_far ?_ NB243_267.out _; (with_reducible repeat (first | refine blk_drewN ?_ _ | refine blk_drew ?_ | refine blk_alloc ?_ _)); exact BK243.out⟩, ⟨by (with_reducible repeat (first | refine blk_drewN ?_ _ | refine blk_drew ?_ | refine blk_alloc ?_ _)); refine blk_far ?_ NB255_267.out _; (with_reducible repeat (first | refine blk_drewN ?_ _ | refine blk_drew ?_ | refine blk_alloc ?_ _)); refine blk_far ?_ NB255_267.out _; (with_reducible repeat (first | refine blk_drewN ?_ _ | refine blk_drew ?_ | refine blk_alloc ?_ _)); exact BK255.out⟩, ⟨by (with_reducible repeat (first | refine blk_drewN ?_ _ | refine blk_drew ?_ | refine blk_alloc ?_ _)); refine blk_put (cs := #[.float .f64 t264, .float .f64 0]) ?_ 1 _ rfl; (with_reducible repeat (first | refine blk_drewN ?_ _ | refine blk_drew ?_ | refine blk_alloc ?_ _)); refine blk_put (cs := #[.float .f64 0, .float .f64 0]) ?_ 0 _ rfl; (with_reducible repeat (first | refine blk_drewN ?_ _ | refine blk_drew ?_ | refine blk_alloc ?_ _)); exact BK267.out⟩, ⟨by repeat (first | (with_reducible first | exact HB.out | apply below_alloc | apply pw_below_drewN | apply below_drew1 | refine below_set ?_ GE231.out | refine below_set ?_ GE243.out | refine below_set ?_ GE255.out | refine below_set ?_ GE267.out) | exact HB.out)⟩⟩
                          · rw [if_neg c67] at H
                            have c67b0 : (!(fEq .f64 t240 t264) || (!(fEq .f64 t241 t265))) = false := by simpa using c67
                            clear c67
                            by_cases c75 : (fNe .f64 t240 t252) = true
                            · rw [if_pos c75] at H
                              have c75b0 : (fNe .f64 t240 t252) = true := c75
                              clear c75
                              have H' := Aside0.mk H
                              clear H
                              have hnb76 := NB243_231.out
                              have hnc76 := NB231_243.out
                              have hnb77 := NB243_255.out
                              have hnc77 := NB255_243.out
                              have hnb78 := NB243_267.out
                              have hnc78 := NB267_243.out
                              have hcz79_0 : w62.cell? ⟨gb243, 0, none⟩ = some (.float .f64 t240) := (blk_cell BK243.out 0).trans rfl
                              have hcz79_1 : w62.cell? ⟨gb243, 1, none⟩ = some (.float .f64 t241) := (blk_cell BK243.out 1).trans rfl
                              have hfz79_0 := blk_frozen BK243.out 0
                              have hfz79_1 := blk_frozen BK243.out 1
                              have hnb80 := NB267_231.out
                              have hnc80 := NB231_267.out
                              have hnb81 := NB267_255.out
                              have hnc81 := NB255_267.out
                              have hcz82_0 : w62.cell? ⟨gb267, 0, none⟩ = some (.float .f64 0) := (blk_cell BK267.out 0).trans rfl
                              have hcz82_1 : w62.cell? ⟨gb267, 1, none⟩ = some (.float .f64 0) := (blk_cell BK267.out 1).trans rfl
                              have hfz82_0 := blk_frozen BK267.out 0
                              have hfz82_1 := blk_frozen BK267.out 1
                              have hnb83 := NB255_231.out
                              have hnc83 := NB231_255.out
                              have hcz84_0 : w62.cell? ⟨gb255, 0, none⟩ = some (.float .f64 t252) := (blk_cell BK255.out 0).trans rfl
                              have hcz84_1 : w62.cell? ⟨gb255, 1, none⟩ = some (.float .f64 t253) := (blk_cell BK255.out 1).trans rfl
                              have hfz84_0 := blk_frozen BK255.out 0
                              have hfz84_1 := blk_frozen BK255.out 1
                              go_wp2
                              go_meet
                              case rel => exact ⟨_, (true), (by first | rfl | (simp; done) | (simp [*]; done)), H', ⟨by have := HJ2.out; have := HJ9.out; first | omega | exact Nat.le_refl _⟩, ⟨by (with_reducible repeat (first | apply Kd.R_alloc | apply Kd.R_drewN | apply Kd.R_drew)); exact Kd.R_mono (Kd.R_far (p := ⟨gb267, 1, none⟩) (Kd.R_far (p := ⟨gb267, 0, none⟩) (Kd.R_mono HO_5.out (fun k_ hk => (⟨hk, hk.2.2.2.2⟩ : _ ∧ k_ ≠ gb267))) (fun _ hk => hk.2) (.float .f64 t264)) (fun _ hk => hk.2) (.float .f64 t265)) (fun _ hk => ⟨hk.1.2.1, ⟨hk.1.2.2.1, ⟨hk.1.2.2.2.1, hk.1.2.2.2.2⟩⟩⟩)⟩, ⟨by (with_reducible repeat (first | refine blk_drewN ?_ _ | refine blk_drew ?_ | refine blk_alloc ?_ _)); refine blk_far ?_ NB231_267.out _; (with_reducible repeat (first | refine blk_drewN ?_ _ | refine blk_drew ?_ | refine blk_alloc ?_ _)); refine blk_far ?_ NB231_267.out _; (with_reducible repeat (first | refine blk_drewN ?_ _ | refine blk_drew ?_ | refine blk_alloc ?_ _)); exact BK231.out⟩, ⟨by (with_reducible repeat (first | refine blk_drewN ?_ _ | refine blk_drew ?_ | refine blk_alloc ?_ _)); refine blk_far ?_ NB243_267.out _; (with_reducible repeat (first | refine blk_drewN ?_ _ | refine blk_drew ?_ | refine blk_alloc ?_ _)); refine blk_far ?_ NB243_267.out _; (with_reducible repeat (first | refine blk_drewN ?_ _ | refine blk_drew ?_ | refine blk_alloc ?_ _)); exact BK243.out⟩, ⟨by (with_reducible repeat (first | refine blk_drewN ?_ _ | refine blk_drew ?_ | refine blk_alloc ?_ _)); refine blk_far ?_ NB255_267.out _; (with_reducible repeat (first | refine blk_drewN ?_ _ | refine blk_drew ?_ | refine blk_alloc ?_ _)); refine blk_far ?_ NB255_267.out _; (with_reducible repeat (first | refine blk_drewN ?_ _ | refine blk_drew ?_ | refine blk_alloc ?_ _)); exact BK255.out⟩, ⟨by (with_reducible repeat (first | refine blk_drewN ?_ _ | refine blk_drew ?_ | refine blk_alloc ?_ _)); refine blk_put (cs := #[.float .f64 t264, .float .f64 0]) ?_ 1 _ rfl; (with_reducible repeat (first | refine blk_drewN ?_ _ | refine blk_drew ?_ | refine blk_alloc ?_ _)); refine blk_put (cs := #[.float .f64 0, .float .f64 0]) ?_ 0 _ rfl; (with_reducible repeat (first | refine blk_drewN ?_ _ | refine blk_drew ?_ | refine blk_alloc ?_ _)); exact BK267.out⟩, ⟨by repeat (first | (with_reducible first | exact HB.out | apply below_alloc | apply pw_below_drewN | apply below_drew1 | refine below_set ?_ GE231.out | refine below_set ?_ GE243.out | refine below_set ?_ GE255.out | refine below_set ?_ GE267.out) | exact HB.out)⟩⟩
                            · rw [if_neg c75] at H
                              have c75b0 : (fNe .f64 t240 t252) = false := by simpa using c75
                              clear c75
                              have H' := Aside0.mk H
                              clear H
                              have hnb85 := NB243_231.out
                              have hnc85 := NB231_243.out
                              have hnb86 := NB243_255.out
                              have hnc86 := NB255_243.out
                              have hnb87 := NB243_267.out
                              have hnc87 := NB267_243.out
                              have hcz88_0 : w62.cell? ⟨gb243, 0, none⟩ = some (.float .f64 t240) := (blk_cell BK243.out 0).trans rfl
                              have hcz88_1 : w62.cell? ⟨gb243, 1, none⟩ = some (.float .f64 t241) := (blk_cell BK243.out 1).trans rfl
                              have hfz88_0 := blk_frozen BK243.out 0
                              have hfz88_1 := blk_frozen BK243.out 1
                              have hnb89 := NB267_231.out
                              have hnc89 := NB231_267.out
                              have hnb90 := NB267_255.out
                              have hnc90 := NB255_267.out
                              have hcz91_0 : w62.cell? ⟨gb267, 0, none⟩ = some (.float .f64 0) := (blk_cell BK267.out 0).trans rfl
                              have hcz91_1 : w62.cell? ⟨gb267, 1, none⟩ = some (.float .f64 0) := (blk_cell BK267.out 1).trans rfl
                              have hfz91_0 := blk_frozen BK267.out 0
                              have hfz91_1 := blk_frozen BK267.out 1
                              have hnb92 := NB255_231.out
                              have hnc92 := NB231_255.out
                              have hcz93_0 : w62.cell? ⟨gb255, 0, none⟩ = some (.float .f64 t252) := (blk_cell BK255.out 0).trans rfl
                              have hcz93_1 : w62.cell? ⟨gb255, 1, none⟩ = some (.float .f64 t253) := (blk_cell BK255.out 1).trans rfl
                              have hfz93_0 := blk_frozen BK255.out 0
                              have hfz93_1 := blk_frozen BK255.out 1
                              go_wp2
                              go_meet
                              case rel => exact ⟨_, ((fNe .f64 t241 (Op.negFloat .f64 t253))), (by first | rfl | (simp; done) | (simp [*]; done)), H', ⟨by have := HJ2.out; have := HJ9.out; first | omega | exact Nat.le_refl _⟩, ⟨by (with_reducible repeat (first | apply Kd.R_alloc | apply Kd.R_drewN | apply Kd.R_drew)); exact Kd.R_mono (Kd.R_far (p := ⟨gb267, 1, none⟩) (Kd.R_far (p := ⟨gb267, 0, none⟩) (Kd.R_mono HO_5.out (fun k_ hk => (⟨hk, hk.2.2.2.2⟩ : _ ∧ k_ ≠ gb267))) (fun _ hk => hk.2) (.float .f64 t264)) (fun _ hk => hk.2) (.float .f64 t265)) (fun _ hk => ⟨hk.1.2.1, ⟨hk.1.2.2.1, ⟨hk.1.2.2.2.1, hk.1.2.2.2.2⟩⟩⟩)⟩, ⟨by (with_reducible repeat (first | refine blk_drewN ?_ _ | refine blk_drew ?_ | refine blk_alloc ?_ _)); refine blk_far ?_ NB231_267.out _; (with_reducible repeat (first | refine blk_drewN ?_ _ | refine blk_drew ?_ | refine blk_alloc ?_ _)); refine blk_far ?_ NB231_267.out _; (with_reducible repeat (first | refine blk_drewN ?_ _ | refine blk_drew ?_ | refine blk_alloc ?_ _)); exact BK231.out⟩, ⟨by (with_reducible repeat (first | refine blk_drewN ?_ _ | refine blk_drew ?_ | refine blk_alloc ?_ _)); refine blk_far ?_ NB243_267.out _; (with_reducible repeat (first | refine blk_drewN ?_ _ | refine blk_drew ?_ | refine blk_alloc ?_ _)); refine blk_far ?_ NB243_267.out _; (with_reducible repeat (first | refine blk_drewN ?_ _ | refine blk_drew ?_ | refine blk_alloc ?_ _)); exact BK243.out⟩, ⟨by (with_reducible repeat (first | refine blk_drewN ?_ _ | refine blk_drew ?_ | refine blk_alloc ?_ _)); refine blk_far ?_ NB255_267.out _; (with_reducible repeat (first | refine blk_drewN ?_ _ | refine blk_drew ?_ | refine blk_alloc ?_ _)); refine blk_far ?_ NB255_267.out _; (with_reducible repeat (first | refine blk_drewN ?_ _ | refine blk_drew ?_ | refine blk_alloc ?_ _)); exact BK255.out⟩, ⟨by (with_reducible repeat (first | refine blk_drewN ?_ _ | refine blk_drew ?_ | refine blk_alloc ?_ _)); refine blk_put (cs := #[.float .f64 t264, .float .f64 0]) ?_ 1 _ rfl; (with_reducible repeat (first | refine blk_drewN ?_ _ | refine blk_drew ?_ | refine blk_alloc ?_ _)); refine blk_put (cs := #[.float .f64 0, .float .f64 0]) ?_ 0 _ rfl; (with_reducible repeat (first | refine blk_drewN ?_ _ | refine blk_drew ?_ | refine blk_alloc ?_ _)); exact BK267.out⟩, ⟨by repeat (first | (with_reducible first | exact HB.out | apply below_alloc | apply pw_below_drewN | apply below_drew1 | refine below_set ?_ GE231.out | refine below_set ?_ GE243.out | refine below_set ?_ GE255.out | refine below_set ?_ GE267.out) | exact HB.out)⟩⟩
                        · rw [if_neg c66] at H
                          have c66b0 : (t254 == 0) = false := beq_eq_false_iff_ne.mpr c66
                          have c66b1 : (t254 != 0) = true := bne_iff_ne.mpr c66
                          have H' := Aside0.mk H
                          clear H
                          go_wp2
                          go_meet
                          case rel => exact ⟨_, (true), (by first | rfl | (simp; done) | (simp [*]; done)), H', ⟨by have := HJ2.out; have := HJ9.out; first | omega | exact Nat.le_refl _⟩, ⟨by (with_reducible repeat (first | apply Kd.R_alloc | apply Kd.R_drewN | apply Kd.R_drew)); exact Kd.R_mono (Kd.R_far (p := ⟨gb267, 1, none⟩) (Kd.R_far (p := ⟨gb267, 0, none⟩) (Kd.R_mono HO_5.out (fun k_ hk => (⟨hk, hk.2.2.2.2⟩ : _ ∧ k_ ≠ gb267))) (fun _ hk => hk.2) (.float .f64 t264)) (fun _ hk => hk.2) (.float .f64 t265)) (fun _ hk => ⟨hk.1.2.1, ⟨hk.1.2.2.1, ⟨hk.1.2.2.2.1, hk.1.2.2.2.2⟩⟩⟩)⟩, ⟨by (with_reducible repeat (first | refine blk_drewN ?_ _ | refine blk_drew ?_ | refine blk_alloc ?_ _)); refine blk_far ?_ NB231_267.out _; (with_reducible repeat (first | refine blk_drewN ?_ _ | refine blk_drew ?_ | refine blk_alloc ?_ _)); refine blk_far ?_ NB231_267.out _; (with_reducible repeat (first | refine blk_drewN ?_ _ | refine blk_drew ?_ | refine blk_alloc ?_ _)); exact BK231.out⟩, ⟨by (with_reducible repeat (first | refine blk_drewN ?_ _ | refine blk_drew ?_ | refine blk_alloc ?_ _)); refine blk_far ?_ NB243_267.out _; (with_reducible repeat (first | refine blk_drewN ?_ _ | refine blk_drew ?_ | refine blk_alloc ?_ _)); refine blk_far ?_ NB243_267.out _; (with_reducible repeat (first | refine blk_drewN ?_ _ | refine blk_drew ?_ | refine blk_alloc ?_ _)); exact BK243.out⟩, ⟨by (with_reducible repeat (first | refine blk_drewN ?_ _ | refine blk_drew ?_ | refine blk_alloc ?_ _)); refine blk_far ?_ NB255_267.out _; (with_reducible repeat (first | refine blk_drewN ?_ _ | refine blk_drew ?_ | refine blk_alloc ?_ _)); refine blk_far ?_ NB255_267.out _; (with_reducible repeat (first | refine blk_drewN ?_ _ | refine blk_drew ?_ | refine blk_alloc ?_ _)); exact BK255.out⟩, ⟨by (with_reducible repeat (first | refine blk_drewN ?_ _ | refine blk_drew ?_ | refine blk_alloc ?_ _)); refine blk_put (cs := #[.float .f64 t264, .float .f64 0]) ?_ 1 _ rfl; (with_reducible repeat (first | refine blk_drewN ?_ _ | refine blk_drew ?_ | refine blk_alloc ?_ _)); refine blk_put (cs := #[.float .f64 0, .float .f64 0]) ?_ 0 _ rfl; (with_reducible repeat (first | refine blk_drewN ?_ _ | refine blk_drew ?_ | refine blk_alloc ?_ _)); exact BK267.out⟩, ⟨by repeat (first | (with_reducible first | exact HB.out | apply below_alloc | apply pw_below_drewN | apply below_drew1 | refine below_set ?_ GE231.out | refine below_set ?_ GE243.out | refine below_set ?_ GE255.out | refine below_set ?_ GE267.out) | exact HB.out)⟩⟩
                      · rw [if_neg c65] at H
                        have c65b0 : (t242 == 0) = false := beq_eq_false_iff_ne.mpr c65
                        have c65b1 : (t242 != 0) = true := bne_iff_ne.mpr c65
                        (first | rw [c65b0] | (simp only [i64_w, i32_w]; rw [c65b0]) | skip)
                        have H' := Aside0.mk H
                        clear H
                        go_wp2
                        go_meet
                        case rel => exact ⟨_, (true), (by first | rfl | (simp; done) | (simp [*]; done)), H', ⟨by have := HJ2.out; have := HJ9.out; first | omega | exact Nat.le_refl _⟩, ⟨by (with_reducible repeat (first | apply Kd.R_alloc | apply Kd.R_drewN | apply Kd.R_drew)); exact Kd.R_mono (Kd.R_far (p := ⟨gb267, 1, none⟩) (Kd.R_far (p := ⟨gb267, 0, none⟩) (Kd.R_mono HO_5.out (fun k_ hk => (⟨hk, hk.2.2.2.2⟩ : _ ∧ k_ ≠ gb267))) (fun _ hk => hk.2) (.float .f64 t264)) (fun _ hk => hk.2) (.float .f64 t265)) (fun _ hk => ⟨hk.1.2.1, ⟨hk.1.2.2.1, ⟨hk.1.2.2.2.1, hk.1.2.2.2.2⟩⟩⟩)⟩, ⟨by (with_reducible repeat (first | refine blk_drewN ?_ _ | refine blk_drew ?_ | refine blk_alloc ?_ _)); refine blk_far ?_ NB231_267.out _; (with_reducible repeat (first | refine blk_drewN ?_ _ | refine blk_drew ?_ | refine blk_alloc ?_ _)); refine blk_far ?_ NB231_267.out _; (with_reducible repeat (first | refine blk_drewN ?_ _ | refine blk_drew ?_ | refine blk_alloc ?_ _)); exact BK231.out⟩, ⟨by (with_reducible repeat (first | refine blk_drewN ?_ _ | refine blk_drew ?_ | refine blk_alloc ?_ _)); refine blk_far ?_ NB243_267.out _; (with_reducible repeat (first | refine blk_drewN ?_ _ | refine blk_drew ?_ | refine blk_alloc ?_ _)); refine blk_far ?_ NB243_267.out _; (with_reducible repeat (first | refine blk_drewN ?_ _ | refine blk_drew ?_ | refine blk_alloc ?_ _)); exact BK243.out⟩, ⟨by (with_reducible repeat (first | refine blk_drewN ?_ _ | refine blk_drew ?_ | refine blk_alloc ?_ _)); refine blk_far ?_ NB255_267.out _; (with_reducible repeat (first | refine blk_drewN ?_ _ | refine blk_drew ?_ | refine blk_alloc ?_ _)); refine blk_far ?_ NB255_267.out _; (with_reducible repeat (first | refine blk_drewN ?_ _ | refine blk_drew ?_ | refine blk_alloc ?_ _)); exact BK255.out⟩, ⟨by (with_reducible repeat (first | refine blk_drewN ?_ _ | refine blk_drew ?_ | refine blk_alloc ?_ _)); refine blk_put (cs := #[.float .f64 t264, .float .f64 0]) ?_ 1 _ rfl; (with_reducible repeat (first | refine blk_drewN ?_ _ | refine blk_drew ?_ | refine blk_alloc ?_ _)); refine blk_put (cs := #[.float .f64 0, .float .f64 0]) ?_ 0 _ rfl; (with_reducible repeat (first | refine blk_drewN ?_ _ | refine blk_drew ?_ | refine blk_alloc ?_ _)); exact BK267.out⟩, ⟨by repeat (first | (with_reducible first | exact HB.out | apply below_alloc | apply pw_below_drewN | apply below_drew1 | refine below_set ?_ GE231.out | refine below_set ?_ GE243.out | refine below_set ?_ GE255.out | refine below_set ?_ GE267.out) | exact HB.out)⟩⟩
                    case rest =>
                      clear HC38
                      try clear c2
                      try clear p2
                      try clear q5
                      try clear c6
                      try clear c7
                      try clear c8
                      try clear c9
                      try clear c25
                      try clear q58
                      try clear q59
                      try clear c65
                      try clear c65b0
                      try clear c65b1
                      try clear c66
                      try clear c66b0
                      try clear c66b1
                      try clear c67
                      try clear c67b0
                      try clear c68
                      try clear c69
                      try clear c70
                      try clear c72
                      try clear c73
                      try clear c75
                      try clear c75b0
                      try clear c76
                      try clear c77
                      try clear c78
                      try clear c80
                      try clear c81
                      try clear c83
                      try clear c85
                      try clear c86
                      try clear c87
                      try clear c89
                      try clear c90
                      try clear c92
                      try clear hcz71_0
                      try clear hcz71_1
                      try clear hcz74_0
                      try clear hcz74_1
                      try clear hcz79_0
                      try clear hcz79_1
                      try clear hcz82_0
                      try clear hcz82_1
                      try clear hcz84_0
                      try clear hcz84_1
                      try clear hcz88_0
                      try clear hcz88_1
                      try clear hcz91_0
                      try clear hcz91_1
                      try clear hcz93_0
                      try clear hcz93_1
                      try clear hfz71_0
                      try clear hfz71_1
                      try clear hfz74_0
                      try clear hfz74_1
                      try clear hfz79_0
                      try clear hfz79_1
                      try clear hfz82_0
                      try clear hfz82_1
                      try clear hfz84_0
                      try clear hfz84_1
                      try clear hfz88_0
                      try clear hfz88_1
                      try clear hfz91_0
                      try clear hfz91_1
                      try clear hfz93_0
                      try clear hfz93_1
                      try clear q58
                      try clear q59
                      obtain ⟨kq, x110_37, rfl, HA, HJ37, HO_5, BK231, BK243, BK255, BK267, HB⟩ := hcut
                      cases kq with
                      | zero => exact absurd HA.out (by simp [laws_FnPower.j2])
                      | succ kj37 =>
                        have H := HA.out
                        clear HA
                        simp only [laws_FnPower.j2] at H
                        by_cases c94 : x110_37 = true
                        · subst c94
                          have H1 : (some false) = some r := by rw [if_pos rfl] at H; exact H
                          clear H
                          have H := H1
                          clear H1
                          obtain rfl := Option.some.inj H
                          go_wp2
                          go_ret
                          exact ⟨by first | rfl | (simp [errW_none, errW_some] <;> rfl) | (simp only [← hji8]; first | rfl | (simp [errW_none, errW_some] <;> rfl)) | (simp [*, errW_none, errW_some] <;> rfl), by repeat (first | (with_reducible first | exact HB.out | apply below_alloc | apply pw_below_drewN | apply below_drew1 | refine below_set ?_ GE231.out | refine below_set ?_ GE243.out | refine below_set ?_ GE255.out | refine below_set ?_ GE267.out) | exact HB.out)⟩
                        · replace c94 := Bool.eq_false_iff.mpr c94
                          subst c94
                          have H1 : ((impl_Bridge.f kj37 t222).bind fun bt268 => ((spec_Bridge.f kj37 t222).bind fun bt272 => (if bt268.2.2 = bt272.2.2 then (some (fEq .f64 bt268.1 bt272.1 && (fEq .f64 bt268.2.1 bt272.2.1))) else (some false)))) = some r := by rw [if_neg (show ¬ (false = true) by decide)] at H; exact H
                          clear H
                          have H := H1
                          clear H1
                          replace H := Option.bind_eq_some_iff.mp H
                          obtain ⟨⟨t268, t269, t270⟩, A950, H⟩ := H
                          replace H : ((spec_Bridge.f kj37 t222).bind fun bt272 => (if t270 = bt272.2.2 then (some (fEq .f64 t268 bt272.1 && (fEq .f64 t269 bt272.2.1))) else (some false))) = some r := H
                          have A95 := Aside0.mk A950
                          clear A950
                          replace H := Option.bind_eq_some_iff.mp H
                          obtain ⟨⟨t272, t273, t274⟩, A960, H⟩ := H
                          replace H : (if t270 = t274 then (some (fEq .f64 t268 t272 && (fEq .f64 t269 t273))) else (some false)) = some r := H
                          have A96 := Aside0.mk A960
                          clear A960
                          by_cases c97 : t270 = t274
                          · rw [if_pos c97] at H
                            have c97b0 : (t270 == t274) = true := beq_iff_eq.mpr c97
                            have c97b1 : (t270 != t274) = false := bne_eq_false_iff_eq.mpr c97
                            clear c97
                            obtain rfl := Option.some.inj H
                            go_wp2_with (first | ((with_reducible refine gate_callee (f := 26) rfl ?_); refine goesL_ (some 113) rfl rfl Try.func26 (by kernel_rfl) rfl #[.slice Ao13 t222.length co13] rfl (by (try simp only [List.map_toArray, List.map_cons, List.map_nil]); first | done | rfl | (simp only [List.length_drop, List.length_take]; rfl)) ?_; (with_reducible refine (impl_Bridge.calls kj37 _ _ t222 t268 t269 t270 _ ?side1 ?side2 A95.out).mono ?_); (case side1 => repeat (first | exact (Kd.R_reads' HO_5.out).2.2 | (with_reducible refine Kd.C_alloc ?_ _) | (with_reducible refine Kd.C_drewN ?_ _) | (with_reducible refine Kd.C_drew ?_))); (case side2 => exact (Kd.R_reads' HO_5.out).2.1); rintro e w98 ⟨rfl, hb⟩; refine ⟨_, rfl, ?_⟩; have n0_ := Aside0.mk (Kd.R_below (by (with_reducible repeat (first | apply Kd.R_alloc | apply Kd.R_drewN | apply Kd.R_drew)); exact HO_5.out) hb); have n1_ := Aside0.mk (blk_below (g := gb231) (o := .cells #[.float .f64 t228, .float .f64 t229] 61 (0, 0)) (by (with_reducible repeat (first | refine blk_drewN ?_ _ | refine blk_drew ?_ | refine blk_alloc ?_ _)); exact BK231.out) hb); have n2_ := Aside0.mk (blk_below (g := gb243) (o := .cells #[.float .f64 t240, .float .f64 t241] 61 (0, 0)) (by (with_reducible repeat (first | refine blk_drewN ?_ _ | refine blk_drew ?_ | refine blk_alloc ?_ _)); exact BK243.out) hb); have n3_ := Aside0.mk (blk_below (g := gb255) (o := .cells #[.float .f64 t252, .float .f64 t253] 61 (0, 0)) (by (with_reducible repeat (first | refine blk_drewN ?_ _ | refine blk_drew ?_ | refine blk_alloc ?_ _)); exact BK255.out) hb); have n4_ := Aside0.mk (blk_below (g := gb267) (o := .cells #[.float .f64 t264, .float .f64 t265] 61 (0, 0)) (by (with_reducible repeat (first | refine blk_drewN ?_ _ | refine blk_drew ?_ | refine blk_alloc ?_ _)); exact BK267.out) hb); have n5_ := Aside0.mk (below_step (by repeat (first | (with_reducible first | exact HB.out | apply below_alloc | apply pw_below_drewN | apply below_drew1 | refine below_set ?_ GE231.out | refine below_set ?_ GE243.out | refine below_set ?_ GE255.out | refine below_set ?_ GE267.out) | exact HB.out)) hb); clear HO_5; clear BK231; clear BK243; clear BK255; clear BK267; clear HB; have HO_5 := n0_; have BK231 := n1_; have BK243 := n2_; have BK255 := n3_; have BK267 := n4_; have HB := n5_; clear n0_ n1_ n2_ n3_ n4_ n5_; (try clear hb); (try clear hb2); (try clear hk); (try clear hi)) | ((with_reducible refine gate_dst (N := 16) rfl ?_); (try (refine gate_guard (by rfl) ?_; dsimp only)); refine box_event ?hg (N := 16) ?hd (cs := #[.float .f64 0, .float .f64 0]) (t := 61) ?hr ?_; (case hd => rfl); (case hg => rfl); (case hr => first | (go_simp; done) | (go_simp; rfl)); intro gb271 hg w99 hbox hb; have n0_ := Aside0.mk (Kd.R_below (Kd.R_elderB (by (with_reducible repeat (first | apply Kd.R_alloc | apply Kd.R_drewN | apply Kd.R_drew)); exact HO_5.out) gb271 (Nat.le_of_eq hg.symm)) hb); have n1_ := Aside0.mk (blk_below (g := gb231) (o := .cells #[.float .f64 t228, .float .f64 t229] 61 (0, 0)) (by (with_reducible repeat (first | refine blk_drewN ?_ _ | refine blk_drew ?_ | refine blk_alloc ?_ _)); exact BK231.out) hb); have n2_ := Aside0.mk (blk_below (g := gb243) (o := .cells #[.float .f64 t240, .float .f64 t241] 61 (0, 0)) (by (with_reducible repeat (first | refine blk_drewN ?_ _ | refine blk_drew ?_ | refine blk_alloc ?_ _)); exact BK243.out) hb); have n3_ := Aside0.mk (blk_below (g := gb255) (o := .cells #[.float .f64 t252, .float .f64 t253] 61 (0, 0)) (by (with_reducible repeat (first | refine blk_drewN ?_ _ | refine blk_drew ?_ | refine blk_alloc ?_ _)); exact BK255.out) hb); have n4_ := Aside0.mk (blk_below (g := gb267) (o := .cells #[.float .f64 t264, .float .f64 t265] 61 (0, 0)) (by (with_reducible repeat (first | refine blk_drewN ?_ _ | refine blk_drew ?_ | refine blk_alloc ?_ _)); exact BK267.out) hb); have n5_ := Aside0.mk (below_step (by repeat (first | (with_reducible first | exact HB.out | apply below_alloc | apply pw_below_drewN | apply below_drew1 | refine below_set ?_ GE231.out | refine below_set ?_ GE243.out | refine below_set ?_ GE255.out | refine below_set ?_ GE267.out) | exact HB.out)) hb); have n6_ := Aside0.mk (hbox); have n7_ := Aside0.mk ((by rw [hg]; exact (below_size (by repeat (first | (with_reducible first | exact HB.out | apply below_alloc | apply pw_below_drewN | apply below_drew1 | refine below_set ?_ GE231.out | refine below_set ?_ GE243.out | refine below_set ?_ GE255.out | refine below_set ?_ GE267.out) | exact HB.out))) : w.heap.size ≤ gb271)); have n8_ := Aside0.mk ((by rw [hg]; exact (below_size (by repeat (first | (with_reducible first | exact HB.out | apply below_alloc | apply pw_below_drewN | apply below_drew1 | refine below_set ?_ GE231.out | refine below_set ?_ GE243.out | refine below_set ?_ GE255.out | refine below_set ?_ GE267.out) | exact HB.out))) : w.heap.size ≤ gb271)); have n9_ := Aside0.mk ((by rw [hg]; exact Nat.ne_of_lt (blk_lt (g := gb231) (o := .cells #[.float .f64 t228, .float .f64 t229] 61 (0, 0)) (by (with_reducible repeat (first | refine blk_drewN ?_ _ | refine blk_drew ?_ | refine blk_alloc ?_ _)); exact BK231.out)) : gb231 ≠ gb271)); have n10_ := Aside0.mk ((by rw [hg]; exact Nat.ne_of_gt (blk_lt (g := gb231) (o := .cells #[.float .f64 t228, .float .f64 t229] 61 (0, 0)) (by (with_reducible repeat (first | refine blk_drewN ?_ _ | refine blk_drew ?_ | refine blk_alloc ?_ _)); exact BK231.out)) : gb271 ≠ gb231)); have n11_ := Aside0.mk ((by rw [hg]; exact Nat.ne_of_lt (blk_lt (g := gb243) (o := .cells #[.float .f64 t240, .float .f64 t241] 61 (0, 0)) (by (with_reducible repeat (first | refine blk_drewN ?_ _ | refine blk_drew ?_ | refine blk_alloc ?_ _)); exact BK243.out)) : gb243 ≠ gb271)); have n12_ := Aside0.mk ((by rw [hg]; exact Nat.ne_of_gt (blk_lt (g := gb243) (o := .cells #[.float .f64 t240, .float .f64 t241] 61 (0, 0)) (by (with_reducible repeat (first | refine blk_drewN ?_ _ | refine blk_drew ?_ | refine blk_alloc ?_ _)); exact BK243.out)) : gb271 ≠ gb243)); have n13_ := Aside0.mk ((by rw [hg]; exact Nat.ne_of_lt (blk_lt (g := gb255) (o := .cells #[.float .f64 t252, .float .f64 t253] 61 (0, 0)) (by (with_reducible repeat (first | refine blk_drewN ?_ _ | refine blk_drew ?_ | refine blk_alloc ?_ _)); exact BK255.out)) : gb255 ≠ gb271)); have n14_ := Aside0.mk ((by rw [hg]; exact Nat.ne_of_gt (blk_lt (g := gb255) (o := .cells #[.float .f64 t252, .float .f64 t253] 61 (0, 0)) (by (with_reducible repeat (first | refine blk_drewN ?_ _ | refine blk_drew ?_ | refine blk_alloc ?_ _)); exact BK255.out)) : gb271 ≠ gb255)); have n15_ := Aside0.mk ((by rw [hg]; exact Nat.ne_of_lt (blk_lt (g := gb267) (o := .cells #[.float .f64 t264, .float .f64 t265] 61 (0, 0)) (by (with_reducible repeat (first | refine blk_drewN ?_ _ | refine blk_drew ?_ | refine blk_alloc ?_ _)); exact BK267.out)) : gb267 ≠ gb271)); have n16_ := Aside0.mk ((by rw [hg]; exact Nat.ne_of_gt (blk_lt (g := gb267) (o := .cells #[.float .f64 t264, .float .f64 t265] 61 (0, 0)) (by (with_reducible repeat (first | refine blk_drewN ?_ _ | refine blk_drew ?_ | refine blk_alloc ?_ _)); exact BK267.out)) : gb271 ≠ gb267)); clear HO_5; clear BK231; clear BK243; clear BK255; clear BK267; clear HB; have HO_5 := n0_; have BK231 := n1_; have BK243 := n2_; have BK255 := n3_; have BK267 := n4_; have HB := n5_; have BK271 := n6_; have GW271 := n7_; have GE271 := n8_; have NB231_271 := n9_; have NB271_231 := n10_; have NB243_271 := n11_; have NB271_243 := n12_; have NB255_271 := n13_; have NB271_255 := n14_; have NB267_271 := n15_; have NB271_267 := n16_; clear n0_ n1_ n2_ n3_ n4_ n5_ n6_ n7_ n8_ n9_ n10_ n11_ n12_ n13_ n14_ n15_ n16_; clear hb hbox hg; have hnb100 := NB271_231.out; have hnc100 := NB231_271.out; have hnb101 := NB271_243.out; have hnc101 := NB243_271.out; have hnb102 := NB271_255.out; have hnc102 := NB255_271.out; have hnb103 := NB271_267.out; have hnc103 := NB267_271.out; have hcz104_0 : w99.cell? ⟨gb271, 0, none⟩ = some (.float .f64 0) := (blk_cell BK271.out 0).trans rfl; have hcz104_1 : w99.cell? ⟨gb271, 1, none⟩ = some (.float .f64 0) := (blk_cell BK271.out 1).trans rfl; have hfz104_0 := blk_frozen BK271.out 0; have hfz104_1 := blk_frozen BK271.out 1) | ((with_reducible refine gate_callee (f := 27) rfl ?_); refine goesL_ (some 118) rfl rfl Try.func27 (by kernel_rfl) rfl #[.slice Ao13 t222.length co13] rfl (by (try simp only [List.map_toArray, List.map_cons, List.map_nil]); first | done | rfl | (simp only [List.length_drop, List.length_take]; rfl)) ?_; (with_reducible refine (spec_Bridge.calls kj37 _ _ t222 t272 t273 t274 _ ?side1 ?side2 A96.out).mono ?_); (case side1 => refine (Kd.R_reads' (e := 61) (base := w.heap.size) (ok := fun k_ => ((k_ ≠ gb231 ∧ (k_ ≠ gb243 ∧ (k_ ≠ gb255 ∧ k_ ≠ gb267))) ∧ k_ ≠ gb271)) (n := t222.length) (c := co13) ?_).2.2; exact (by (with_reducible repeat (first | apply Kd.R_alloc | apply Kd.R_drewN | apply Kd.R_drew)); exact (Kd.R_mono (Kd.R_far (p := ⟨gb271, 1, none⟩) (Kd.R_far (p := ⟨gb271, 0, none⟩) (Kd.R_mono HO_5.out (fun k_ hk => (⟨hk, hk.2⟩ : _ ∧ k_ ≠ gb271))) (fun _ hk => hk.2) (.float .f64 t268)) (fun _ hk => hk.2) (.float .f64 t269)) (fun _ h_ => h_.1)))); (case side2 => exact (Kd.R_reads' HO_5.out).2.1); rintro e w105 ⟨rfl, hb⟩; refine ⟨_, rfl, ?_⟩; have n0_ := Aside0.mk (Kd.R_below (by (with_reducible repeat (first | apply Kd.R_alloc | apply Kd.R_drewN | apply Kd.R_drew)); exact (Kd.R_mono (Kd.R_far (p := ⟨gb271, 1, none⟩) (Kd.R_far (p := ⟨gb271, 0, none⟩) (Kd.R_mono HO_5.out (fun k_ hk => (⟨hk, hk.2⟩ : _ ∧ k_ ≠ gb271))) (fun _ hk => hk.2) (.float .f64 t268)) (fun _ hk => hk.2) (.float .f64 t269)) (fun _ h_ => h_.1))) hb); have n1_ := Aside0.mk (blk_below (g := gb231) (o := .cells #[.float .f64 t228, .float .f64 t229] 61 (0, 0)) (by (with_reducible repeat (first | refine blk_drewN ?_ _ | refine blk_drew ?_ | refine blk_alloc ?_ _)); refine blk_far ?_ NB231_271.out _; (with_reducible repeat (first | refine blk_drewN ?_ _ | refine blk_drew ?_ | refine blk_alloc ?_ _)); refine blk_far ?_ NB231_271.out _; (with_reducible repeat (first | refine blk_drewN ?_ _ | refine blk_drew ?_ | refine blk_alloc ?_ _)); exact BK231.out) hb); have n2_ := Aside0.mk (blk_below (g := gb243) (o := .cells #[.float .f64 t240, .float .f64 t241] 61 (0, 0)) (by (with_reducible repeat (first | refine blk_drewN ?_ _ | refine blk_drew ?_ | refine blk_alloc ?_ _)); refine blk_far ?_ NB243_271.out _; (with_reducible repeat (first | refine blk_drewN ?_ _ | refine blk_drew ?_ | refine blk_alloc ?_ _)); refine blk_far ?_ NB243_271.out _; (with_reducible repeat (first | refine blk_drewN ?_ _ | refine blk_drew ?_ | refine blk_alloc ?_ _)); exact BK243.out) hb); have n3_ := Aside0.mk (blk_below (g := gb255) (o := .cells #[.float .f64 t252, .float .f64 t253] 61 (0, 0)) (by (with_reducible repeat (first | refine blk_drewN ?_ _ | refine blk_drew ?_ | refine blk_alloc ?_ _)); refine blk_far ?_ NB255_271.out _; (with_reducible repeat (first | refine blk_drewN ?_ _ | refine blk_drew ?_ | refine blk_alloc ?_ _)); refine blk_far ?_ NB255_271.out _; (with_reducible repeat (first | refine blk_drewN ?_ _ | refine blk_drew ?_ | refine blk_alloc ?_ _)); exact BK255.out) hb); have n4_ := Aside0.mk (blk_below (g := gb267) (o := .cells #[.float .f64 t264, .float .f64 t265] 61 (0, 0)) (by (with_reducible repeat (first | refine blk_drewN ?_ _ | refine blk_drew ?_ | refine blk_alloc ?_ _)); refine blk_far ?_ NB267_271.out _; (with_reducible repeat (first | refine blk_drewN ?_ _ | refine blk_drew ?_ | refine blk_alloc ?_ _)); refine blk_far ?_ NB267_271.out _; (with_reducible repeat (first | refine blk_drewN ?_ _ | refine blk_drew ?_ | refine blk_alloc ?_ _)); exact BK267.out) hb); have n5_ := Aside0.mk (blk_below (g := gb271) (o := .cells #[.float .f64 t268, .float .f64 t269] 61 (0, 0)) (by (with_reducible repeat (first | refine blk_drewN ?_ _ | refine blk_drew ?_ | refine blk_alloc ?_ _)); refine blk_put (cs := #[.float .f64 t268, .float .f64 0]) ?_ 1 _ rfl; (with_reducible repeat (first | refine blk_drewN ?_ _ | refine blk_drew ?_ | refine blk_alloc ?_ _)); refine blk_put (cs := #[.float .f64 0, .float .f64 0]) ?_ 0 _ rfl; (with_reducible repeat (first | refine blk_drewN ?_ _ | refine blk_drew ?_ | refine blk_alloc ?_ _)); exact BK271.out) hb); have n6_ := Aside0.mk (below_step (by repeat (first | (with_reducible first | exact HB.out | apply below_alloc | apply pw_below_drewN | apply below_drew1 | refine below_set ?_ GE231.out | refine below_set ?_ GE243.out | refine below_set ?_ GE255.out | refine below_set ?_ GE267.out | refine below_set ?_ GE271.out) | exact HB.out)) hb); clear HO_5; clear BK231; clear BK243; clear BK255; clear BK267; clear BK271; clear HB; have HO_5 := n0_; have BK231 := n1_; have BK243 := n2_; have BK255 := n3_; have BK267 := n4_; have BK271 := n5_; have HB := n6_; clear n0_ n1_ n2_ n3_ n4_ n5_ n6_; (try clear hb); (try clear hb2); (try clear hk); (try clear hi)) | ((with_reducible refine gate_dst (N := 18) rfl ?_); (try (refine gate_guard (by rfl) ?_; dsimp only)); refine box_event ?hg (N := 18) ?hd (cs := #[.float .f64 0, .float .f64 0]) (t := 61) ?hr ?_; (case hd => rfl); (case hg => rfl); (case hr => first | (go_simp; done) | (go_simp; rfl)); intro gb275 hg w106 hbox hb; have n0_ := Aside0.mk (Kd.R_below (Kd.R_elderB (by (with_reducible repeat (first | apply Kd.R_alloc | apply Kd.R_drewN | apply Kd.R_drew)); exact HO_5.out) gb275 (Nat.le_of_eq hg.symm)) hb); have n1_ := Aside0.mk (blk_below (g := gb231) (o := .cells #[.float .f64 t228, .float .f64 t229] 61 (0, 0)) (by (with_reducible repeat (first | refine blk_drewN ?_ _ | refine blk_drew ?_ | refine blk_alloc ?_ _)); exact BK231.out) hb); have n2_ := Aside0.mk (blk_below (g := gb243) (o := .cells #[.float .f64 t240, .float .f64 t241] 61 (0, 0)) (by (with_reducible repeat (first | refine blk_drewN ?_ _ | refine blk_drew ?_ | refine blk_alloc ?_ _)); exact BK243.out) hb); have n3_ := Aside0.mk (blk_below (g := gb255) (o := .cells #[.float .f64 t252, .float .f64 t253] 61 (0, 0)) (by (with_reducible repeat (first | refine blk_drewN ?_ _ | refine blk_drew ?_ | refine blk_alloc ?_ _)); exact BK255.out) hb); have n4_ := Aside0.mk (blk_below (g := gb267) (o := .cells #[.float .f64 t264, .float .f64 t265] 61 (0, 0)) (by (with_reducible repeat (first | refine blk_drewN ?_ _ | refine blk_drew ?_ | refine blk_alloc ?_ _)); exact BK267.out) hb); have n5_ := Aside0.mk (blk_below (g := gb271) (o := .cells #[.float .f64 t268, .float .f64 t269] 61 (0, 0)) (by (with_reducible repeat (first | refine blk_drewN ?_ _ | refine blk_drew ?_ | refine blk_alloc ?_ _)); exact BK271.out) hb); have n6_ := Aside0.mk (below_step (by repeat (first | (with_reducible first | exact HB.out | apply below_alloc | apply pw_below_drewN | apply below_drew1 | refine below_set ?_ GE231.out | refine below_set ?_ GE243.out | refine below_set ?_ GE255.out | refine below_set ?_ GE267.out | refine below_set ?_ GE271.out) | exact HB.out)) hb); have n7_ := Aside0.mk (hbox); have n8_ := Aside0.mk ((by rw [hg]; exact (below_size (by repeat (first | (with_reducible first | exact HB.out | apply below_alloc | apply pw_below_drewN | apply below_drew1 | refine below_set ?_ GE231.out | refine below_set ?_ GE243.out | refine below_set ?_ GE255.out | refine below_set ?_ GE267.out | refine below_set ?_ GE271.out) | exact HB.out))) : w.heap.size ≤ gb275)); have n9_ := Aside0.mk ((by rw [hg]; exact (below_size (by repeat (first | (with_reducible first | exact HB.out | apply below_alloc | apply pw_below_drewN | apply below_drew1 | refine below_set ?_ GE231.out | refine below_set ?_ GE243.out | refine below_set ?_ GE255.out | refine below_set ?_ GE267.out | refine below_set ?_ GE271.out) | exact HB.out))) : w.heap.size ≤ gb275)); have n10_ := Aside0.mk ((by rw [hg]; exact Nat.ne_of_lt (blk_lt (g := gb231) (o := .cells #[.float .f64 t228, .float .f64 t229] 61 (0, 0)) (by (with_reducible repeat (first | refine blk_drewN ?_ _ | refine blk_drew ?_ | refine blk_alloc ?_ _)); exact BK231.out)) : gb231 ≠ gb275)); have n11_ := Aside0.mk ((by rw [hg]; exact Nat.ne_of_gt (blk_lt (g := gb231) (o := .cells #[.float .f64 t228, .float .f64 t229] 61 (0, 0)) (by (with_reducible repeat (first | refine blk_drewN ?_ _ | refine blk_drew ?_ | refine blk_alloc ?_ _)); exact BK231.out)) : gb275 ≠ gb231)); have n12_ := Aside0.mk ((by rw [hg]; exact Nat.ne_of_lt (blk_lt (g := gb243) (o := .cells #[.float .f64 t240, .float .f64 t241] 61 (0, 0)) (by (with_reducible repeat (first | refine blk_drewN ?_ _ | refine blk_drew ?_ | refine blk_alloc ?_ _)); exact BK243.out)) : gb243 ≠ gb275)); have n13_ := Aside0.mk ((by rw [hg]; exact Nat.ne_of_gt (blk_lt (g := gb243) (o := .cells #[.float .f64 t240, .float .f64 t241] 61 (0, 0)) (by (with_reducible repeat (first | refine blk_drewN ?_ _ | refine blk_drew ?_ | refine blk_alloc ?_ _)); exact BK243.out)) : gb275 ≠ gb243)); have n14_ := Aside0.mk ((by rw [hg]; exact Nat.ne_of_lt (blk_lt (g := gb255) (o := .cells #[.float .f64 t252, .float .f64 t253] 61 (0, 0)) (by (with_reducible repeat (first | refine blk_drewN ?_ _ | refine blk_drew ?_ | refine blk_alloc ?_ _)); exact BK255.out)) : gb255 ≠ gb275)); have n15_ := Aside0.mk ((by rw [hg]; exact Nat.ne_of_gt (blk_lt (g := gb255) (o := .cells #[.float .f64 t252, .float .f64 t253] 61 (0, 0)) (by (with_reducible repeat (first | refine blk_drewN ?_ _ | refine blk_drew ?_ | refine blk_alloc ?_ _)); exact BK255.out)) : gb275 ≠ gb255)); have n16_ := Aside0.mk ((by rw [hg]; exact Nat.ne_of_lt (blk_lt (g := gb267) (o := .cells #[.float .f64 t264, .float .f64 t265] 61 (0, 0)) (by (with_reducible repeat (first | refine blk_drewN ?_ _ | refine blk_drew ?_ | refine blk_alloc ?_ _)); exact BK267.out)) : gb267 ≠ gb275)); have n17_ := Aside0.mk ((by rw [hg]; exact Nat.ne_of_gt (blk_lt (g := gb267) (o := .cells #[.float .f64 t264, .float .f64 t265] 61 (0, 0)) (by (with_reducible repeat (first | refine blk_drewN ?_ _ | refine blk_drew ?_ | refine blk_alloc ?_ _)); exact BK267.out)) : gb275 ≠ gb267)); have n18_ := Aside0.mk ((by rw [hg]; exact Nat.ne_of_lt (blk_lt (g := gb271) (o := .cells #[.float .f64 t268, .float .f64 t269] 61 (0, 0)) (by (with_reducible repeat (first | refine blk_drewN ?_ _ | refine blk_drew ?_ | refine blk_alloc ?_ _)); exact BK271.out)) : gb271 ≠ gb275)); have n19_ := Aside0.mk ((by rw [hg]; exact Nat.ne_of_gt (blk_lt (g := gb271) (o := .cells #[.float .f64 t268, .float .f64 t269] 61 (0, 0)) (by (with_reducible repeat (first | refine blk_drewN ?_ _ | refine blk_drew ?_ | refine blk_alloc ?_ _)); exact BK271.out)) : gb275 ≠ gb271)); clear HO_5; clear BK231; clear BK243; clear BK255; clear BK267; clear BK271; clear HB; have HO_5 := n0_; have BK231 := n1_; have BK243 := n2_; have BK255 := n3_; have BK267 := n4_; have BK271 := n5_; have HB := n6_; have BK275 := n7_; have GW275 := n8_; have GE275 := n9_; have NB231_275 := n10_; have NB275_231 := n11_; have NB243_275 := n12_; have NB275_243 := n13_; have NB255_275 := n14_; have NB275_255 := n15_; have NB267_275 := n16_; have NB275_267 := n17_; have NB271_275 := n18_; have NB275_271 := n19_; clear n0_ n1_ n2_ n3_ n4_ n5_ n6_ n7_ n8_ n9_ n10_ n11_ n12_ n13_ n14_ n15_ n16_ n17_ n18_ n19_; clear hb hbox hg; have hnb107 := NB275_231.out; have hnc107 := NB231_275.out; have hnb108 := NB275_243.out; have hnc108 := NB243_275.out; have hnb109 := NB275_255.out; have hnc109 := NB255_275.out; have hnb110 := NB275_267.out; have hnc110 := NB267_275.out; have hnb111 := NB275_271.out; have hnc111 := NB271_275.out; have hcz112_0 : w106.cell? ⟨gb275, 0, none⟩ = some (.float .f64 0) := (blk_cell BK275.out 0).trans rfl; have hcz112_1 : w106.cell? ⟨gb275, 1, none⟩ = some (.float .f64 0) := (blk_cell BK275.out 1).trans rfl; have hfz112_0 := blk_frozen BK275.out 0; have hfz112_1 := blk_frozen BK275.out 1; have hcz113_0 : w106.cell? ⟨gb271, 0, none⟩ = some (.float .f64 t268) := (blk_cell BK271.out 0).trans rfl; have hcz113_1 : w106.cell? ⟨gb271, 1, none⟩ = some (.float .f64 t269) := (blk_cell BK271.out 1).trans rfl; have hfz113_0 := blk_frozen BK271.out 0; have hfz113_1 := blk_frozen BK271.out 1))
                            go_ret
                            exact ⟨by first | rfl | (simp [errW_none, errW_some] <;> rfl) | (simp only [← hji8]; first | rfl | (simp [errW_none, errW_some] <;> rfl)) | (simp [*, errW_none, errW_some] <;> rfl), by repeat (first | (with_reducible first | exact HB.out | apply below_alloc | apply pw_below_drewN | apply below_drew1 | refine below_set ?_ GE231.out | refine below_set ?_ GE243.out | refine below_set ?_ GE255.out | refine below_set ?_ GE267.out | refine below_set ?_ GE271.out | refine below_set ?_ GE275.out) | exact HB.out)⟩
                          · rw [if_neg c97] at H
                            have c97b0 : (t270 == t274) = false := beq_eq_false_iff_ne.mpr c97
                            have c97b1 : (t270 != t274) = true := bne_iff_ne.mpr c97
                            obtain rfl := Option.some.inj H
                            go_wp2_with (first | ((with_reducible refine gate_callee (f := 26) rfl ?_); refine goesL_ (some 113) rfl rfl Try.func26 (by kernel_rfl) rfl #[.slice Ao13 t222.length co13] rfl (by (try simp only [List.map_toArray, List.map_cons, List.map_nil]); first | done | rfl | (simp only [List.length_drop, List.length_take]; rfl)) ?_; (with_reducible refine (impl_Bridge.calls kj37 _ _ t222 t268 t269 t270 _ ?side1 ?side2 A95.out).mono ?_); (case side1 => repeat (first | exact (Kd.R_reads' HO_5.out).2.2 | (with_reducible refine Kd.C_alloc ?_ _) | (with_reducible refine Kd.C_drewN ?_ _) | (with_reducible refine Kd.C_drew ?_))); (case side2 => exact (Kd.R_reads' HO_5.out).2.1); rintro e w114 ⟨rfl, hb⟩; refine ⟨_, rfl, ?_⟩; have n0_ := Aside0.mk (Kd.R_below (by (with_reducible repeat (first | apply Kd.R_alloc | apply Kd.R_drewN | apply Kd.R_drew)); exact HO_5.out) hb); have n1_ := Aside0.mk (blk_below (g := gb231) (o := .cells #[.float .f64 t228, .float .f64 t229] 61 (0, 0)) (by (with_reducible repeat (first | refine blk_drewN ?_ _ | refine blk_drew ?_ | refine blk_alloc ?_ _)); exact BK231.out) hb); have n2_ := Aside0.mk (blk_below (g := gb243) (o := .cells #[.float .f64 t240, .float .f64 t241] 61 (0, 0)) (by (with_reducible repeat (first | refine blk_drewN ?_ _ | refine blk_drew ?_ | refine blk_alloc ?_ _)); exact BK243.out) hb); have n3_ := Aside0.mk (blk_below (g := gb255) (o := .cells #[.float .f64 t252, .float .f64 t253] 61 (0, 0)) (by (with_reducible repeat (first | refine blk_drewN ?_ _ | refine blk_drew ?_ | refine blk_alloc ?_ _)); exact BK255.out) hb); have n4_ := Aside0.mk (blk_below (g := gb267) (o := .cells #[.float .f64 t264, .float .f64 t265] 61 (0, 0)) (by (with_reducible repeat (first | refine blk_drewN ?_ _ | refine blk_drew ?_ | refine blk_alloc ?_ _)); exact BK267.out) hb); have n5_ := Aside0.mk (below_step (by repeat (first | (with_reducible first | exact HB.out | apply below_alloc | apply pw_below_drewN | apply below_drew1 | refine below_set ?_ GE231.out | refine below_set ?_ GE243.out | refine below_set ?_ GE255.out | refine below_set ?_ GE267.out) | exact HB.out)) hb); clear HO_5; clear BK231; clear BK243; clear BK255; clear BK267; clear HB; have HO_5 := n0_; have BK231 := n1_; have BK243 := n2_; have BK255 := n3_; have BK267 := n4_; have HB := n5_; clear n0_ n1_ n2_ n3_ n4_ n5_; (try clear hb); (try clear hb2); (try clear hk); (try clear hi)) | ((with_reducible refine gate_dst (N := 16) rfl ?_); (try (refine gate_guard (by rfl) ?_; dsimp only)); refine box_event ?hg (N := 16) ?hd (cs := #[.float .f64 0, .float .f64 0]) (t := 61) ?hr ?_; (case hd => rfl); (case hg => rfl); (case hr => first | (go_simp; done) | (go_simp; rfl)); intro gb271 hg w115 hbox hb; have n0_ := Aside0.mk (Kd.R_below (Kd.R_elderB (by (with_reducible repeat (first | apply Kd.R_alloc | apply Kd.R_drewN | apply Kd.R_drew)); exact HO_5.out) gb271 (Nat.le_of_eq hg.symm)) hb); have n1_ := Aside0.mk (blk_below (g := gb231) (o := .cells #[.float .f64 t228, .float .f64 t229] 61 (0, 0)) (by (with_reducible repeat (first | refine blk_drewN ?_ _ | refine blk_drew ?_ | refine blk_alloc ?_ _)); exact BK231.out) hb); have n2_ := Aside0.mk (blk_below (g := gb243) (o := .cells #[.float .f64 t240, .float .f64 t241] 61 (0, 0)) (by (with_reducible repeat (first | refine blk_drewN ?_ _ | refine blk_drew ?_ | refine blk_alloc ?_ _)); exact BK243.out) hb); have n3_ := Aside0.mk (blk_below (g := gb255) (o := .cells #[.float .f64 t252, .float .f64 t253] 61 (0, 0)) (by (with_reducible repeat (first | refine blk_drewN ?_ _ | refine blk_drew ?_ | refine blk_alloc ?_ _)); exact BK255.out) hb); have n4_ := Aside0.mk (blk_below (g := gb267) (o := .cells #[.float .f64 t264, .float .f64 t265] 61 (0, 0)) (by (with_reducible repeat (first | refine blk_drewN ?_ _ | refine blk_drew ?_ | refine blk_alloc ?_ _)); exact BK267.out) hb); have n5_ := Aside0.mk (below_step (by repeat (first | (with_reducible first | exact HB.out | apply below_alloc | apply pw_below_drewN | apply below_drew1 | refine below_set ?_ GE231.out | refine below_set ?_ GE243.out | refine below_set ?_ GE255.out | refine below_set ?_ GE267.out) | exact HB.out)) hb); have n6_ := Aside0.mk (hbox); have n7_ := Aside0.mk ((by rw [hg]; exact (below_size (by repeat (first | (with_reducible first | exact HB.out | apply below_alloc | apply pw_below_drewN | apply below_drew1 | refine below_set ?_ GE231.out | refine below_set ?_ GE243.out | refine below_set ?_ GE255.out | refine below_set ?_ GE267.out) | exact HB.out))) : w.heap.size ≤ gb271)); have n8_ := Aside0.mk ((by rw [hg]; exact (below_size (by repeat (first | (with_reducible first | exact HB.out | apply below_alloc | apply pw_below_drewN | apply below_drew1 | refine below_set ?_ GE231.out | refine below_set ?_ GE243.out | refine below_set ?_ GE255.out | refine below_set ?_ GE267.out) | exact HB.out))) : w.heap.size ≤ gb271)); have n9_ := Aside0.mk ((by rw [hg]; exact Nat.ne_of_lt (blk_lt (g := gb231) (o := .cells #[.float .f64 t228, .float .f64 t229] 61 (0, 0)) (by (with_reducible repeat (first | refine blk_drewN ?_ _ | refine blk_drew ?_ | refine blk_alloc ?_ _)); exact BK231.out)) : gb231 ≠ gb271)); have n10_ := Aside0.mk ((by rw [hg]; exact Nat.ne_of_gt (blk_lt (g := gb231) (o := .cells #[.float .f64 t228, .float .f64 t229] 61 (0, 0)) (by (with_reducible repeat (first | refine blk_drewN ?_ _ | refine blk_drew ?_ | refine blk_alloc ?_ _)); exact BK231.out)) : gb271 ≠ gb231)); have n11_ := Aside0.mk ((by rw [hg]; exact Nat.ne_of_lt (blk_lt (g := gb243) (o := .cells #[.float .f64 t240, .float .f64 t241] 61 (0, 0)) (by (with_reducible repeat (first | refine blk_drewN ?_ _ | refine blk_drew ?_ | refine blk_alloc ?_ _)); exact BK243.out)) : gb243 ≠ gb271)); have n12_ := Aside0.mk ((by rw [hg]; exact Nat.ne_of_gt (blk_lt (g := gb243) (o := .cells #[.float .f64 t240, .float .f64 t241] 61 (0, 0)) (by (with_reducible repeat (first | refine blk_drewN ?_ _ | refine blk_drew ?_ | refine blk_alloc ?_ _)); exact BK243.out)) : gb271 ≠ gb243)); have n13_ := Aside0.mk ((by rw [hg]; exact Nat.ne_of_lt (blk_lt (g := gb255) (o := .cells #[.float .f64 t252, .float .f64 t253] 61 (0, 0)) (by (with_reducible repeat (first | refine blk_drewN ?_ _ | refine blk_drew ?_ | refine blk_alloc ?_ _)); exact BK255.out)) : gb255 ≠ gb271)); have n14_ := Aside0.mk ((by rw [hg]; exact Nat.ne_of_gt (blk_lt (g := gb255) (o := .cells #[.float .f64 t252, .float .f64 t253] 61 (0, 0)) (by (with_reducible repeat (first | refine blk_drewN ?_ _ | refine blk_drew ?_ | refine blk_alloc ?_ _)); exact BK255.out)) : gb271 ≠ gb255)); have n15_ := Aside0.mk ((by rw [hg]; exact Nat.ne_of_lt (blk_lt (g := gb267) (o := .cells #[.float .f64 t264, .float .f64 t265] 61 (0, 0)) (by (with_reducible repeat (first | refine blk_drewN ?_ _ | refine blk_drew ?_ | refine blk_alloc ?_ _)); exact BK267.out)) : gb267 ≠ gb271)); have n16_ := Aside0.mk ((by rw [hg]; exact Nat.ne_of_gt (blk_lt (g := gb267) (o := .cells #[.float .f64 t264, .float .f64 t265] 61 (0, 0)) (by (with_reducible repeat (first | refine blk_drewN ?_ _ | refine blk_drew ?_ | refine blk_alloc ?_ _)); exact BK267.out)) : gb271 ≠ gb267)); clear HO_5; clear BK231; clear BK243; clear BK255; clear BK267; clear HB; have HO_5 := n0_; have BK231 := n1_; have BK243 := n2_; have BK255 := n3_; have BK267 := n4_; have HB := n5_; have BK271 := n6_; have GW271 := n7_; have GE271 := n8_; have NB231_271 := n9_; have NB271_231 := n10_; have NB243_271 := n11_; have NB271_243 := n12_; have NB255_271 := n13_; have NB271_255 := n14_; have NB267_271 := n15_; have NB271_267 := n16_; clear n0_ n1_ n2_ n3_ n4_ n5_ n6_ n7_ n8_ n9_ n10_ n11_ n12_ n13_ n14_ n15_ n16_; clear hb hbox hg; have hnb116 := NB271_231.out; have hnc116 := NB231_271.out; have hnb117 := NB271_243.out; have hnc117 := NB243_271.out; have hnb118 := NB271_255.out; have hnc118 := NB255_271.out; have hnb119 := NB271_267.out; have hnc119 := NB267_271.out; have hcz120_0 : w115.cell? ⟨gb271, 0, none⟩ = some (.float .f64 0) := (blk_cell BK271.out 0).trans rfl; have hcz120_1 : w115.cell? ⟨gb271, 1, none⟩ = some (.float .f64 0) := (blk_cell BK271.out 1).trans rfl; have hfz120_0 := blk_frozen BK271.out 0; have hfz120_1 := blk_frozen BK271.out 1) | ((with_reducible refine gate_callee (f := 27) rfl ?_); refine goesL_ (some 118) rfl rfl Try.func27 (by kernel_rfl) rfl #[.slice Ao13 t222.length co13] rfl (by (try simp only [List.map_toArray, List.map_cons, List.map_nil]); first | done | rfl | (simp only [List.length_drop, List.length_take]; rfl)) ?_; (with_reducible refine (spec_Bridge.calls kj37 _ _ t222 t272 t273 t274 _ ?side1 ?side2 A96.out).mono ?_); (case side1 => refine (Kd.R_reads' (e := 61) (base := w.heap.size) (ok := fun k_ => ((k_ ≠ gb231 ∧ (k_ ≠ gb243 ∧ (k_ ≠ gb255 ∧ k_ ≠ gb267))) ∧ k_ ≠ gb271)) (n := t222.length) (c := co13) ?_).2.2; exact (by (with_reducible repeat (first | apply Kd.R_alloc | apply Kd.R_drewN | apply Kd.R_drew)); exact (Kd.R_mono (Kd.R_far (p := ⟨gb271, 1, none⟩) (Kd.R_far (p := ⟨gb271, 0, none⟩) (Kd.R_mono HO_5.out (fun k_ hk => (⟨hk, hk.2⟩ : _ ∧ k_ ≠ gb271))) (fun _ hk => hk.2) (.float .f64 t268)) (fun _ hk => hk.2) (.float .f64 t269)) (fun _ h_ => h_.1)))); (case side2 => exact (Kd.R_reads' HO_5.out).2.1); rintro e w121 ⟨rfl, hb⟩; refine ⟨_, rfl, ?_⟩; have n0_ := Aside0.mk (Kd.R_below (by (with_reducible repeat (first | apply Kd.R_alloc | apply Kd.R_drewN | apply Kd.R_drew)); exact (Kd.R_mono (Kd.R_far (p := ⟨gb271, 1, none⟩) (Kd.R_far (p := ⟨gb271, 0, none⟩) (Kd.R_mono HO_5.out (fun k_ hk => (⟨hk, hk.2⟩ : _ ∧ k_ ≠ gb271))) (fun _ hk => hk.2) (.float .f64 t268)) (fun _ hk => hk.2) (.float .f64 t269)) (fun _ h_ => h_.1))) hb); have n1_ := Aside0.mk (blk_below (g := gb231) (o := .cells #[.float .f64 t228, .float .f64 t229] 61 (0, 0)) (by (with_reducible repeat (first | refine blk_drewN ?_ _ | refine blk_drew ?_ | refine blk_alloc ?_ _)); refine blk_far ?_ NB231_271.out _; (with_reducible repeat (first | refine blk_drewN ?_ _ | refine blk_drew ?_ | refine blk_alloc ?_ _)); refine blk_far ?_ NB231_271.out _; (with_reducible repeat (first | refine blk_drewN ?_ _ | refine blk_drew ?_ | refine blk_alloc ?_ _)); exact BK231.out) hb); have n2_ := Aside0.mk (blk_below (g := gb243) (o := .cells #[.float .f64 t240, .float .f64 t241] 61 (0, 0)) (by (with_reducible repeat (first | refine blk_drewN ?_ _ | refine blk_drew ?_ | refine blk_alloc ?_ _)); refine blk_far ?_ NB243_271.out _; (with_reducible repeat (first | refine blk_drewN ?_ _ | refine blk_drew ?_ | refine blk_alloc ?_ _)); refine blk_far ?_ NB243_271.out _; (with_reducible repeat (first | refine blk_drewN ?_ _ | refine blk_drew ?_ | refine blk_alloc ?_ _)); exact BK243.out) hb); have n3_ := Aside0.mk (blk_below (g := gb255) (o := .cells #[.float .f64 t252, .float .f64 t253] 61 (0, 0)) (by (with_reducible repeat (first | refine blk_drewN ?_ _ | refine blk_drew ?_ | refine blk_alloc ?_ _)); refine blk_far ?_ NB255_271.out _; (with_reducible repeat (first | refine blk_drewN ?_ _ | refine blk_drew ?_ | refine blk_alloc ?_ _)); refine blk_far ?_ NB255_271.out _; (with_reducible repeat (first | refine blk_drewN ?_ _ | refine blk_drew ?_ | refine blk_alloc ?_ _)); exact BK255.out) hb); have n4_ := Aside0.mk (blk_below (g := gb267) (o := .cells #[.float .f64 t264, .float .f64 t265] 61 (0, 0)) (by (with_reducible repeat (first | refine blk_drewN ?_ _ | refine blk_drew ?_ | refine blk_alloc ?_ _)); refine blk_far ?_ NB267_271.out _; (with_reducible repeat (first | refine blk_drewN ?_ _ | refine blk_drew ?_ | refine blk_alloc ?_ _)); refine blk_far ?_ NB267_271.out _; (with_reducible repeat (first | refine blk_drewN ?_ _ | refine blk_drew ?_ | refine blk_alloc ?_ _)); exact BK267.out) hb); have n5_ := Aside0.mk (blk_below (g := gb271) (o := .cells #[.float .f64 t268, .float .f64 t269] 61 (0, 0)) (by (with_reducible repeat (first | refine blk_drewN ?_ _ | refine blk_drew ?_ | refine blk_alloc ?_ _)); refine blk_put (cs := #[.float .f64 t268, .float .f64 0]) ?_ 1 _ rfl; (with_reducible repeat (first | refine blk_drewN ?_ _ | refine blk_drew ?_ | refine blk_alloc ?_ _)); refine blk_put (cs := #[.float .f64 0, .float .f64 0]) ?_ 0 _ rfl; (with_reducible repeat (first | refine blk_drewN ?_ _ | refine blk_drew ?_ | refine blk_alloc ?_ _)); exact BK271.out) hb); have n6_ := Aside0.mk (below_step (by repeat (first | (with_reducible first | exact HB.out | apply below_alloc | apply pw_below_drewN | apply below_drew1 | refine below_set ?_ GE231.out | refine below_set ?_ GE243.out | refine below_set ?_ GE255.out | refine below_set ?_ GE267.out | refine below_set ?_ GE271.out) | exact HB.out)) hb); clear HO_5; clear BK231; clear BK243; clear BK255; clear BK267; clear BK271; clear HB; have HO_5 := n0_; have BK231 := n1_; have BK243 := n2_; have BK255 := n3_; have BK267 := n4_; have BK271 := n5_; have HB := n6_; clear n0_ n1_ n2_ n3_ n4_ n5_ n6_; (try clear hb); (try clear hb2); (try clear hk); (try clear hi)) | ((with_reducible refine gate_dst (N := 18) rfl ?_); (try (refine gate_guard (by rfl) ?_; dsimp only)); refine box_event ?hg (N := 18) ?hd (cs := #[.float .f64 0, .float .f64 0]) (t := 61) ?hr ?_; (case hd => rfl); (case hg => rfl); (case hr => first | (go_simp; done) | (go_simp; rfl)); intro gb275 hg w122 hbox hb; have n0_ := Aside0.mk (Kd.R_below (Kd.R_elderB (by (with_reducible repeat (first | apply Kd.R_alloc | apply Kd.R_drewN | apply Kd.R_drew)); exact HO_5.out) gb275 (Nat.le_of_eq hg.symm)) hb); have n1_ := Aside0.mk (blk_below (g := gb231) (o := .cells #[.float .f64 t228, .float .f64 t229] 61 (0, 0)) (by (with_reducible repeat (first | refine blk_drewN ?_ _ | refine blk_drew ?_ | refine blk_alloc ?_ _)); exact BK231.out) hb); have n2_ := Aside0.mk (blk_below (g := gb243) (o := .cells #[.float .f64 t240, .float .f64 t241] 61 (0, 0)) (by (with_reducible repeat (first | refine blk_drewN ?_ _ | refine blk_drew ?_ | refine blk_alloc ?_ _)); exact BK243.out) hb); have n3_ := Aside0.mk (blk_below (g := gb255) (o := .cells #[.float .f64 t252, .float .f64 t253] 61 (0, 0)) (by (with_reducible repeat (first | refine blk_drewN ?_ _ | refine blk_drew ?_ | refine blk_alloc ?_ _)); exact BK255.out) hb); have n4_ := Aside0.mk (blk_below (g := gb267) (o := .cells #[.float .f64 t264, .float .f64 t265] 61 (0, 0)) (by (with_reducible repeat (first | refine blk_drewN ?_ _ | refine blk_drew ?_ | refine blk_alloc ?_ _)); exact BK267.out) hb); have n5_ := Aside0.mk (blk_below (g := gb271) (o := .cells #[.float .f64 t268, .float .f64 t269] 61 (0, 0)) (by (with_reducible repeat (first | refine blk_drewN ?_ _ | refine blk_drew ?_ | refine blk_alloc ?_ _)); exact BK271.out) hb); have n6_ := Aside0.mk (below_step (by repeat (first | (with_reducible first | exact HB.out | apply below_alloc | apply pw_below_drewN | apply below_drew1 | refine below_set ?_ GE231.out | refine below_set ?_ GE243.out | refine below_set ?_ GE255.out | refine below_set ?_ GE267.out | refine below_set ?_ GE271.out) | exact HB.out)) hb); have n7_ := Aside0.mk (hbox); have n8_ := Aside0.mk ((by rw [hg]; exact (below_size (by repeat (first | (with_reducible first | exact HB.out | apply below_alloc | apply pw_below_drewN | apply below_drew1 | refine below_set ?_ GE231.out | refine below_set ?_ GE243.out | refine below_set ?_ GE255.out | refine below_set ?_ GE267.out | refine below_set ?_ GE271.out) | exact HB.out))) : w.heap.size ≤ gb275)); have n9_ := Aside0.mk ((by rw [hg]; exact (below_size (by repeat (first | (with_reducible first | exact HB.out | apply below_alloc | apply pw_below_drewN | apply below_drew1 | refine below_set ?_ GE231.out | refine below_set ?_ GE243.out | refine below_set ?_ GE255.out | refine below_set ?_ GE267.out | refine below_set ?_ GE271.out) | exact HB.out))) : w.heap.size ≤ gb275)); have n10_ := Aside0.mk ((by rw [hg]; exact Nat.ne_of_lt (blk_lt (g := gb231) (o := .cells #[.float .f64 t228, .float .f64 t229] 61 (0, 0)) (by (with_reducible repeat (first | refine blk_drewN ?_ _ | refine blk_drew ?_ | refine blk_alloc ?_ _)); exact BK231.out)) : gb231 ≠ gb275)); have n11_ := Aside0.mk ((by rw [hg]; exact Nat.ne_of_gt (blk_lt (g := gb231) (o := .cells #[.float .f64 t228, .float .f64 t229] 61 (0, 0)) (by (with_reducible repeat (first | refine blk_drewN ?_ _ | refine blk_drew ?_ | refine blk_alloc ?_ _)); exact BK231.out)) : gb275 ≠ gb231)); have n12_ := Aside0.mk ((by rw [hg]; exact Nat.ne_of_lt (blk_lt (g := gb243) (o := .cells #[.float .f64 t240, .float .f64 t241] 61 (0, 0)) (by (with_reducible repeat (first | refine blk_drewN ?_ _ | refine blk_drew ?_ | refine blk_alloc ?_ _)); exact BK243.out)) : gb243 ≠ gb275)); have n13_ := Aside0.mk ((by rw [hg]; exact Nat.ne_of_gt (blk_lt (g := gb243) (o := .cells #[.float .f64 t240, .float .f64 t241] 61 (0, 0)) (by (with_reducible repeat (first | refine blk_drewN ?_ _ | refine blk_drew ?_ | refine blk_alloc ?_ _)); exact BK243.out)) : gb275 ≠ gb243)); have n14_ := Aside0.mk ((by rw [hg]; exact Nat.ne_of_lt (blk_lt (g := gb255) (o := .cells #[.float .f64 t252, .float .f64 t253] 61 (0, 0)) (by (with_reducible repeat (first | refine blk_drewN ?_ _ | refine blk_drew ?_ | refine blk_alloc ?_ _)); exact BK255.out)) : gb255 ≠ gb275)); have n15_ := Aside0.mk ((by rw [hg]; exact Nat.ne_of_gt (blk_lt (g := gb255) (o := .cells #[.float .f64 t252, .float .f64 t253] 61 (0, 0)) (by (with_reducible repeat (first | refine blk_drewN ?_ _ | refine blk_drew ?_ | refine blk_alloc ?_ _)); exact BK255.out)) : gb275 ≠ gb255)); have n16_ := Aside0.mk ((by rw [hg]; exact Nat.ne_of_lt (blk_lt (g := gb267) (o := .cells #[.float .f64 t264, .float .f64 t265] 61 (0, 0)) (by (with_reducible repeat (first | refine blk_drewN ?_ _ | refine blk_drew ?_ | refine blk_alloc ?_ _)); exact BK267.out)) : gb267 ≠ gb275)); have n17_ := Aside0.mk ((by rw [hg]; exact Nat.ne_of_gt (blk_lt (g := gb267) (o := .cells #[.float .f64 t264, .float .f64 t265] 61 (0, 0)) (by (with_reducible repeat (first | refine blk_drewN ?_ _ | refine blk_drew ?_ | refine blk_alloc ?_ _)); exact BK267.out)) : gb275 ≠ gb267)); have n18_ := Aside0.mk ((by rw [hg]; exact Nat.ne_of_lt (blk_lt (g := gb271) (o := .cells #[.float .f64 t268, .float .f64 t269] 61 (0, 0)) (by (with_reducible repeat (first | refine blk_drewN ?_ _ | refine blk_drew ?_ | refine blk_alloc ?_ _)); exact BK271.out)) : gb271 ≠ gb275)); have n19_ := Aside0.mk ((by rw [hg]; exact Nat.ne_of_gt (blk_lt (g := gb271) (o := .cells #[.float .f64 t268, .float .f64 t269] 61 (0, 0)) (by (with_reducible repeat (first | refine blk_drewN ?_ _ | refine blk_drew ?_ | refine blk_alloc ?_ _)); exact BK271.out)) : gb275 ≠ gb271)); clear HO_5; clear BK231; clear BK243; clear BK255; clear BK267; clear BK271; clear HB; have HO_5 := n0_; have BK231 := n1_; have BK243 := n2_; have BK255 := n3_; have BK267 := n4_; have BK271 := n5_; have HB := n6_; have BK275 := n7_; have GW275 := n8_; have GE275 := n9_; have NB231_275 := n10_; have NB275_231 := n11_; have NB243_275 := n12_; have NB275_243 := n13_; have NB255_275 := n14_; have NB275_255 := n15_; have NB267_275 := n16_; have NB275_267 := n17_; have NB271_275 := n18_; have NB275_271 := n19_; clear n0_ n1_ n2_ n3_ n4_ n5_ n6_ n7_ n8_ n9_ n10_ n11_ n12_ n13_ n14_ n15_ n16_ n17_ n18_ n19_; clear hb hbox hg; have hnb123 := NB275_231.out; have hnc123 := NB231_275.out; have hnb124 := NB275_243.out; have hnc124 := NB243_275.out; have hnb125 := NB275_255.out; have hnc125 := NB255_275.out; have hnb126 := NB275_267.out; have hnc126 := NB267_275.out; have hnb127 := NB275_271.out; have hnc127 := NB271_275.out; have hcz128_0 : w122.cell? ⟨gb275, 0, none⟩ = some (.float .f64 0) := (blk_cell BK275.out 0).trans rfl; have hcz128_1 : w122.cell? ⟨gb275, 1, none⟩ = some (.float .f64 0) := (blk_cell BK275.out 1).trans rfl; have hfz128_0 := blk_frozen BK275.out 0; have hfz128_1 := blk_frozen BK275.out 1))
                            go_ret
                            exact ⟨by first | rfl | (simp [errW_none, errW_some] <;> rfl) | (simp only [← hji8]; first | rfl | (simp [errW_none, errW_some] <;> rfl)) | (simp [*, errW_none, errW_some] <;> rfl), by repeat (first | (with_reducible first | exact HB.out | apply below_alloc | apply pw_below_drewN | apply below_drew1 | refine below_set ?_ GE231.out | refine below_set ?_ GE243.out | refine below_set ?_ GE255.out | refine below_set ?_ GE267.out | refine below_set ?_ GE271.out | refine below_set ?_ GE275.out) | exact HB.out)⟩
                  · rw [if_neg c26] at H
                    exact absurd H (by simp)
                · rw [if_neg c24] at H
                  exact absurd H (by simp)
              · rw [if_neg c23] at H
                exact absurd H (by simp)

end Go.Proofs.Ytdgaaoeicijemaa.V
