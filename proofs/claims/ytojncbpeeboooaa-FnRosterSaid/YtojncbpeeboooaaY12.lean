-- squeezed
-- made by pp.py (wip/tools) out of the translation; Lean checks it
import Derived.Test.YtojncbpeeboooaaY0
import Derived.Test.YtojncbpeeboooaaY9
import Derived.Test.YtojncbpeeboooaaY11
namespace Go.Proofs.Ytojncbpeeboooaa.Y
open Go.RowKit Go.Proofs.YtojncbpeeboooaaW.PrintWords Go.Proofs.YtojncbpeeboooaaW.PrintLast Go.Proofs.YtojncbpeeboooaaW.PrintMore
attribute [local go_sem] max2_int min2_int max_two min_two max_three min_three max_four min_four   -- for this text's walks alone
set_option linter.unusedVariables false
set_option linter.unusedSimpArgs false


/-! ### spec_ShiftsOK: function 100 -/
mutual
def spec_ShiftsOK.j0 : Nat → List (S139) → List (S72) → Bool → Option (Bool)
 | 0, _, _, _ => none
 | k + 1, x0, x1, x18 => if x18 = true then (some false) else (spec_ShiftsOK.l0 k x0 x1 0)
def spec_ShiftsOK.l0 : Nat → List (S139) → List (S72) → Int → Option (Bool)
 | 0, _, _, _ => none
 | k + 1, x0, x1, x5 => if x5 < (x0.length : Int) then (if 0 ≤ x5 then (if ((rd_T139 x0 x5).f0) < 0 then (spec_ShiftsOK.j2 k x0 x1 x5 true ((rd_T139 x0 x5).f0) ((rd_T139 x0 x5).f1) ((rd_T139 x0 x5).f2)) else (if ((rd_T139 x0 x5).f0) ≥ ((rd_T139 x0 x5).f1) then (spec_ShiftsOK.j2 k x0 x1 x5 true ((rd_T139 x0 x5).f0) ((rd_T139 x0 x5).f1) ((rd_T139 x0 x5).f2)) else (if ((rd_T139 x0 x5).f1) > 10080 then (spec_ShiftsOK.j2 k x0 x1 x5 true ((rd_T139 x0 x5).f0) ((rd_T139 x0 x5).f1) ((rd_T139 x0 x5).f2)) else ((spec_NameOK.f k ((rd_T139 x0 x5).f2)).bind fun t314 => (spec_ShiftsOK.j2 k x0 x1 x5 (!t314) ((rd_T139 x0 x5).f0) ((rd_T139 x0 x5).f1) ((rd_T139 x0 x5).f2)))))) else (none)) else (spec_ShiftsOK.l1 k x1 0)
def spec_ShiftsOK.j2 : Nat → List (S139) → List (S72) → Int → Bool → Int → Int → ByteArray → Option (Bool)
 | 0, _, _, _, _, _, _, _ => none
 | k + 1, x0, x1, x5, x49, x314000, x314001, x314002 => if x49 = true then (some false) else (if x5 > 0 then (if 0 ≤ (wrap64 (x5 - 1)) then (if (wrap64 (x5 - 1)) < (x0.length : Int) then (if x314000 < ((rd_T139 x0 (wrap64 (x5 - 1))).f0) then (some false) else (spec_ShiftsOK.l0 k x0 x1 (wrap64 (x5 + 1)))) else (none)) else (none)) else (spec_ShiftsOK.l0 k x0 x1 (wrap64 (x5 + 1))))
def spec_ShiftsOK.l1 : Nat → List (S72) → Int → Option (Bool)
 | 0, _, _ => none
 | k + 1, x1, x7 => if x7 < (x1.length : Int) then (if 0 ≤ x7 then ((spec_NameOK.f k ((rd_T72 x1 x7).f0)).bind fun t318 => (if t318 = true then ((spec_l01In.f ((rd_T72 x1 x7).f1) 0 10080).bind fun t319 => (if t319 = true then ((spec_l01In.f ((rd_T72 x1 x7).f2) 0 10080).bind fun t320 => (if t320 = true then ((spec_l01In.f ((rd_T72 x1 x7).f3) 0 1000).bind fun t321 => (if t321 = true then (spec_ShiftsOK.j4 k x1 x7 (decide ((((rd_T72 x1 x7).f4).length : Int) > 6)) ((rd_T72 x1 x7).f0) ((rd_T72 x1 x7).f1) ((rd_T72 x1 x7).f2) ((rd_T72 x1 x7).f3) ((rd_T72 x1 x7).f4)) else (spec_ShiftsOK.j4 k x1 x7 true ((rd_T72 x1 x7).f0) ((rd_T72 x1 x7).f1) ((rd_T72 x1 x7).f2) ((rd_T72 x1 x7).f3) ((rd_T72 x1 x7).f4)))) else (spec_ShiftsOK.j4 k x1 x7 true ((rd_T72 x1 x7).f0) ((rd_T72 x1 x7).f1) ((rd_T72 x1 x7).f2) ((rd_T72 x1 x7).f3) ((rd_T72 x1 x7).f4)))) else (spec_ShiftsOK.j4 k x1 x7 true ((rd_T72 x1 x7).f0) ((rd_T72 x1 x7).f1) ((rd_T72 x1 x7).f2) ((rd_T72 x1 x7).f3) ((rd_T72 x1 x7).f4)))) else (spec_ShiftsOK.j4 k x1 x7 true ((rd_T72 x1 x7).f0) ((rd_T72 x1 x7).f1) ((rd_T72 x1 x7).f2) ((rd_T72 x1 x7).f3) ((rd_T72 x1 x7).f4)))) else (none)) else (some true)
def spec_ShiftsOK.j4 : Nat → List (S72) → Int → Bool → ByteArray → Int → Int → Int → List ByteArray → Option (Bool)
 | 0, _, _, _, _, _, _, _, _ => none
 | k + 1, x1, x7, x100, x318000, x318001, x318002, x318003, x318004 => if x100 = true then (some false) else (spec_ShiftsOK.l2 k x1 x7 0 x318000 x318001 x318002 x318003 x318004)
def spec_ShiftsOK.l2 : Nat → List (S72) → Int → Int → ByteArray → Int → Int → Int → List ByteArray → Option (Bool)
 | 0, _, _, _, _, _, _, _, _ => none
 | k + 1, x1, x7, x9, x318000, x318001, x318002, x318003, x318004 => if x9 < (x318004.length : Int) then (if 0 ≤ x9 then ((spec_NameOK.f k (rdOf ByteArray.empty x318004 x9)).bind fun t323 => (if t323 = true then (spec_ShiftsOK.l2 k x1 x7 (wrap64 (x9 + 1)) x318000 x318001 x318002 x318003 x318004) else (some false))) else (none)) else (spec_ShiftsOK.l3 k x1 x7 0 x318000 x318001 x318002 x318003 x318004)
def spec_ShiftsOK.l3 : Nat → List (S72) → Int → Int → ByteArray → Int → Int → Int → List ByteArray → Option (Bool)
 | 0, _, _, _, _, _, _, _, _ => none
 | k + 1, x1, x7, x10, x318000, x318001, x318002, x318003, x318004 => if x10 < x7 then (if 0 ≤ x10 then (if x10 < (x1.length : Int) then (if ((rd_T72 x1 x10).f0).toList = x318000.toList then (some false) else (spec_ShiftsOK.l3 k x1 x7 (wrap64 (x10 + 1)) x318000 x318001 x318002 x318003 x318004)) else (none)) else (none)) else (spec_ShiftsOK.l1 k x1 (wrap64 (x7 + 1)))
end
def spec_ShiftsOK.f (k : Nat) (l0 : List (S139)) (l1 : List (S72)) : Option (Bool) := if (l0.length : Int) > 8 then (spec_ShiftsOK.j0 k l0 l1 true) else (spec_ShiftsOK.j0 k l0 l1 (decide ((l1.length : Int) > 5)))
theorem spec_ShiftsOK.mono_l : ∀ k, (∀ y0 y1 y2, LeO (spec_ShiftsOK.j0 k y0 y1 y2) (spec_ShiftsOK.j0 (k + 1) y0 y1 y2)) ∧ (∀ y0 y1 y2, LeO (spec_ShiftsOK.l0 k y0 y1 y2) (spec_ShiftsOK.l0 (k + 1) y0 y1 y2)) ∧ (∀ y0 y1 y2 y3 y4 y5 y6, LeO (spec_ShiftsOK.j2 k y0 y1 y2 y3 y4 y5 y6) (spec_ShiftsOK.j2 (k + 1) y0 y1 y2 y3 y4 y5 y6)) ∧ (∀ y0 y1, LeO (spec_ShiftsOK.l1 k y0 y1) (spec_ShiftsOK.l1 (k + 1) y0 y1)) ∧ (∀ y0 y1 y2 y3 y4 y5 y6 y7, LeO (spec_ShiftsOK.j4 k y0 y1 y2 y3 y4 y5 y6 y7) (spec_ShiftsOK.j4 (k + 1) y0 y1 y2 y3 y4 y5 y6 y7)) ∧ (∀ y0 y1 y2 y3 y4 y5 y6 y7, LeO (spec_ShiftsOK.l2 k y0 y1 y2 y3 y4 y5 y6 y7) (spec_ShiftsOK.l2 (k + 1) y0 y1 y2 y3 y4 y5 y6 y7)) ∧ (∀ y0 y1 y2 y3 y4 y5 y6 y7, LeO (spec_ShiftsOK.l3 k y0 y1 y2 y3 y4 y5 y6 y7) (spec_ShiftsOK.l3 (k + 1) y0 y1 y2 y3 y4 y5 y6 y7))
 | 0 => ⟨fun _ _ _ r h => by simp [spec_ShiftsOK.j0] at h, fun _ _ _ r h => by simp [spec_ShiftsOK.l0] at h, fun _ _ _ _ _ _ _ r h => by simp [spec_ShiftsOK.j2] at h, fun _ _ r h => by simp [spec_ShiftsOK.l1] at h, fun _ _ _ _ _ _ _ _ r h => by simp [spec_ShiftsOK.j4] at h, fun _ _ _ _ _ _ _ _ r h => by simp [spec_ShiftsOK.l2] at h, fun _ _ _ _ _ _ _ _ r h => by simp [spec_ShiftsOK.l3] at h⟩
 | k + 1 => by
  obtain ⟨ih0, ih1, ih2, ih3, ih4, ih5, ih6⟩ := spec_ShiftsOK.mono_l k
  refine ⟨?_, ?_, ?_, ?_, ?_, ?_, ?_⟩
  ·intro y0 y1 y2
   unfold spec_ShiftsOK.j0
   repeat' first
   | (with_reducible exact ih0 _ _ _)
   | (with_reducible exact ih1 _ _ _)
   | (with_reducible exact ih2 _ _ _ _ _ _ _)
   | (with_reducible exact ih3 _ _)
   | (with_reducible exact ih4 _ _ _ _ _ _ _ _)
   | (with_reducible exact ih5 _ _ _ _ _ _ _ _)
   | (with_reducible exact ih6 _ _ _ _ _ _ _ _)
   | (with_reducible exact spec_NameOK.mono _ _)
   | (with_reducible exact LeO.refl _)
   | (with_reducible exact LeO.none _)
   | (with_reducible refine LeO.ite ?_ ?_)
   | (with_reducible refine LeO.bind ?_ (fun _ => ?_))
   | exact ih0 _ _ _
   | exact ih1 _ _ _
   | exact ih2 _ _ _ _ _ _ _
   | exact ih3 _ _
   | exact ih4 _ _ _ _ _ _ _ _
   | exact ih5 _ _ _ _ _ _ _ _
   | exact ih6 _ _ _ _ _ _ _ _
   | exact spec_NameOK.mono _ _
   | exact LeO.none _
   | refine LeO.ite ?_ ?_
   | refine LeO.bind ?_ (fun _ => ?_)
  ·intro y0 y1 y2
   unfold spec_ShiftsOK.l0
   repeat' first
   | (with_reducible exact ih0 _ _ _)
   | (with_reducible exact ih1 _ _ _)
   | (with_reducible exact ih2 _ _ _ _ _ _ _)
   | (with_reducible exact ih3 _ _)
   | (with_reducible exact ih4 _ _ _ _ _ _ _ _)
   | (with_reducible exact ih5 _ _ _ _ _ _ _ _)
   | (with_reducible exact ih6 _ _ _ _ _ _ _ _)
   | (with_reducible exact spec_NameOK.mono _ _)
   | (with_reducible exact LeO.refl _)
   | (with_reducible exact LeO.none _)
   | (with_reducible refine LeO.ite ?_ ?_)
   | (with_reducible refine LeO.bind ?_ (fun _ => ?_))
   | exact ih0 _ _ _
   | exact ih1 _ _ _
   | exact ih2 _ _ _ _ _ _ _
   | exact ih3 _ _
   | exact ih4 _ _ _ _ _ _ _ _
   | exact ih5 _ _ _ _ _ _ _ _
   | exact ih6 _ _ _ _ _ _ _ _
   | exact spec_NameOK.mono _ _
   | exact LeO.none _
   | refine LeO.ite ?_ ?_
   | refine LeO.bind ?_ (fun _ => ?_)
  ·intro y0 y1 y2 y3 y4 y5 y6
   unfold spec_ShiftsOK.j2
   repeat' first
   | (with_reducible exact ih0 _ _ _)
   | (with_reducible exact ih1 _ _ _)
   | (with_reducible exact ih2 _ _ _ _ _ _ _)
   | (with_reducible exact ih3 _ _)
   | (with_reducible exact ih4 _ _ _ _ _ _ _ _)
   | (with_reducible exact ih5 _ _ _ _ _ _ _ _)
   | (with_reducible exact ih6 _ _ _ _ _ _ _ _)
   | (with_reducible exact spec_NameOK.mono _ _)
   | (with_reducible exact LeO.refl _)
   | (with_reducible exact LeO.none _)
   | (with_reducible refine LeO.ite ?_ ?_)
   | (with_reducible refine LeO.bind ?_ (fun _ => ?_))
   | exact ih0 _ _ _
   | exact ih1 _ _ _
   | exact ih2 _ _ _ _ _ _ _
   | exact ih3 _ _
   | exact ih4 _ _ _ _ _ _ _ _
   | exact ih5 _ _ _ _ _ _ _ _
   | exact ih6 _ _ _ _ _ _ _ _
   | exact spec_NameOK.mono _ _
   | exact LeO.none _
   | refine LeO.ite ?_ ?_
   | refine LeO.bind ?_ (fun _ => ?_)
  ·intro y0 y1
   unfold spec_ShiftsOK.l1
   repeat' first
   | (with_reducible exact ih0 _ _ _)
   | (with_reducible exact ih1 _ _ _)
   | (with_reducible exact ih2 _ _ _ _ _ _ _)
   | (with_reducible exact ih3 _ _)
   | (with_reducible exact ih4 _ _ _ _ _ _ _ _)
   | (with_reducible exact ih5 _ _ _ _ _ _ _ _)
   | (with_reducible exact ih6 _ _ _ _ _ _ _ _)
   | (with_reducible exact spec_NameOK.mono _ _)
   | (with_reducible exact LeO.refl _)
   | (with_reducible exact LeO.none _)
   | (with_reducible refine LeO.ite ?_ ?_)
   | (with_reducible refine LeO.bind ?_ (fun _ => ?_))
   | exact ih0 _ _ _
   | exact ih1 _ _ _
   | exact ih2 _ _ _ _ _ _ _
   | exact ih3 _ _
   | exact ih4 _ _ _ _ _ _ _ _
   | exact ih5 _ _ _ _ _ _ _ _
   | exact ih6 _ _ _ _ _ _ _ _
   | exact spec_NameOK.mono _ _
   | exact LeO.none _
   | refine LeO.ite ?_ ?_
   | refine LeO.bind ?_ (fun _ => ?_)
  ·intro y0 y1 y2 y3 y4 y5 y6 y7
   unfold spec_ShiftsOK.j4
   repeat' first
   | (with_reducible exact ih0 _ _ _)
   | (with_reducible exact ih1 _ _ _)
   | (with_reducible exact ih2 _ _ _ _ _ _ _)
   | (with_reducible exact ih3 _ _)
   | (with_reducible exact ih4 _ _ _ _ _ _ _ _)
   | (with_reducible exact ih5 _ _ _ _ _ _ _ _)
   | (with_reducible exact ih6 _ _ _ _ _ _ _ _)
   | (with_reducible exact spec_NameOK.mono _ _)
   | (with_reducible exact LeO.refl _)
   | (with_reducible exact LeO.none _)
   | (with_reducible refine LeO.ite ?_ ?_)
   | (with_reducible refine LeO.bind ?_ (fun _ => ?_))
   | exact ih0 _ _ _
   | exact ih1 _ _ _
   | exact ih2 _ _ _ _ _ _ _
   | exact ih3 _ _
   | exact ih4 _ _ _ _ _ _ _ _
   | exact ih5 _ _ _ _ _ _ _ _
   | exact ih6 _ _ _ _ _ _ _ _
   | exact spec_NameOK.mono _ _
   | exact LeO.none _
   | refine LeO.ite ?_ ?_
   | refine LeO.bind ?_ (fun _ => ?_)
  ·intro y0 y1 y2 y3 y4 y5 y6 y7
   unfold spec_ShiftsOK.l2
   repeat' first
   | (with_reducible exact ih0 _ _ _)
   | (with_reducible exact ih1 _ _ _)
   | (with_reducible exact ih2 _ _ _ _ _ _ _)
   | (with_reducible exact ih3 _ _)
   | (with_reducible exact ih4 _ _ _ _ _ _ _ _)
   | (with_reducible exact ih5 _ _ _ _ _ _ _ _)
   | (with_reducible exact ih6 _ _ _ _ _ _ _ _)
   | (with_reducible exact spec_NameOK.mono _ _)
   | (with_reducible exact LeO.refl _)
   | (with_reducible exact LeO.none _)
   | (with_reducible refine LeO.ite ?_ ?_)
   | (with_reducible refine LeO.bind ?_ (fun _ => ?_))
   | exact ih0 _ _ _
   | exact ih1 _ _ _
   | exact ih2 _ _ _ _ _ _ _
   | exact ih3 _ _
   | exact ih4 _ _ _ _ _ _ _ _
   | exact ih5 _ _ _ _ _ _ _ _
   | exact ih6 _ _ _ _ _ _ _ _
   | exact spec_NameOK.mono _ _
   | exact LeO.none _
   | refine LeO.ite ?_ ?_
   | refine LeO.bind ?_ (fun _ => ?_)
  ·intro y0 y1 y2 y3 y4 y5 y6 y7
   unfold spec_ShiftsOK.l3
   repeat' first
   | (with_reducible exact ih0 _ _ _)
   | (with_reducible exact ih1 _ _ _)
   | (with_reducible exact ih2 _ _ _ _ _ _ _)
   | (with_reducible exact ih3 _ _)
   | (with_reducible exact ih4 _ _ _ _ _ _ _ _)
   | (with_reducible exact ih5 _ _ _ _ _ _ _ _)
   | (with_reducible exact ih6 _ _ _ _ _ _ _ _)
   | (with_reducible exact spec_NameOK.mono _ _)
   | (with_reducible exact LeO.refl _)
   | (with_reducible exact LeO.none _)
   | (with_reducible refine LeO.ite ?_ ?_)
   | (with_reducible refine LeO.bind ?_ (fun _ => ?_))
   | exact ih0 _ _ _
   | exact ih1 _ _ _
   | exact ih2 _ _ _ _ _ _ _
   | exact ih3 _ _
   | exact ih4 _ _ _ _ _ _ _ _
   | exact ih5 _ _ _ _ _ _ _ _
   | exact ih6 _ _ _ _ _ _ _ _
   | exact spec_NameOK.mono _ _
   | exact LeO.none _
   | refine LeO.ite ?_ ?_
   | refine LeO.bind ?_ (fun _ => ?_)
theorem spec_ShiftsOK.mono : ∀ a0 a1 k, LeO (spec_ShiftsOK.f k a0 a1) (spec_ShiftsOK.f (k + 1) a0 a1) := by
 intro a0 a1 k
 obtain ⟨ih0, ih1, ih2, ih3, ih4, ih5, ih6⟩ := spec_ShiftsOK.mono_l k
 unfold spec_ShiftsOK.f
 repeat' first
   | (with_reducible exact ih0 _ _ _)
   | (with_reducible exact ih1 _ _ _)
   | (with_reducible exact ih2 _ _ _ _ _ _ _)
   | (with_reducible exact ih3 _ _)
   | (with_reducible exact ih4 _ _ _ _ _ _ _ _)
   | (with_reducible exact ih5 _ _ _ _ _ _ _ _)
   | (with_reducible exact ih6 _ _ _ _ _ _ _ _)
   | (with_reducible exact spec_NameOK.mono _ _)
   | (with_reducible exact LeO.refl _)
   | (with_reducible exact LeO.none _)
   | (with_reducible refine LeO.ite ?_ ?_)
   | (with_reducible refine LeO.bind ?_ (fun _ => ?_))
   | exact ih0 _ _ _
   | exact ih1 _ _ _
   | exact ih2 _ _ _ _ _ _ _
   | exact ih3 _ _
   | exact ih4 _ _ _ _ _ _ _ _
   | exact ih5 _ _ _ _ _ _ _ _
   | exact ih6 _ _ _ _ _ _ _ _
   | exact spec_NameOK.mono _ _
   | exact LeO.none _
   | refine LeO.ite ?_ ?_
   | refine LeO.bind ?_ (fun _ => ?_)
set_option maxHeartbeats 64000000 in
set_option maxRecDepth 100000 in
theorem spec_ShiftsOK.calls (k : Nat) (A0 : Option Addr) (c0 : Nat) (l0 : List (S139)) (A1 : Option Addr) (c1 : Nat) (l1 : List (S72)) (r : Bool) (w : World) (hr0 : Kd.C k139 w A0 l0.length l0) (hc0 : l0.length ≤ c0) (hr1 : Kd.C k72 w A1 l1.length l1) (hc1 : l1.length ≤ c1) (h : spec_ShiftsOK.f k l0 l1 = some r) :
  Calls Try.prog 100 #[.slice A0 l0.length c0, .slice A1 l1.length c1] w fun e w' => e = .returned (.bool r) ∧ Below w.heap.size w w' := by
 have hu139 := Try.underlying139
 have hu72 := Try.underlying72
 obtain ⟨HR0, HC0, HR1, HC1, HB⟩ := zD5 hr0 hc0 hr1 hc1 (Below.refl w.heap.size w)
 clear hr0 hc0 hr1 hc1
 have H : (if (l0.length : Int) > 8 then (spec_ShiftsOK.j0 k l0 l1 true) else (spec_ShiftsOK.j0 k l0 l1 (decide ((l1.length : Int) > 5)))) = some r := h
 clear h
 have HC3 := za H
 clear H
 go_enter Try.func100, Try.ntmps100
 go_upto_region 1 with (fail)
 repeat (go_quiet (fail); go_upto_region 1 with (fail))
 go_cut [18] (fun v18 wc => ∃ (kq : Nat) (x18_2 : Bool), v18 = .bool x18_2 ∧ Aside0 (spec_ShiftsOK.j0 kq l0 l1 x18_2 = some r) ∧ Aside0 (kq ≤ k) ∧ Aside0 (Below w.heap.size w wc))
 case first =>
  have H := HC3.out
  clear HC3
  by_cases c4 : (l0.length : Int) > 8
  rotate_left
  ·rw [if_neg c4] at H
   have c4b0 : decide (8 < (l0.length : Int)) = false := decide_eq_false c4
   have c4b1 : decide (8 < l0.length) = false := decide_eq_false (by omega)
   clear c4
   (first | rw [c4b0] | (simp only [i64_w, i32_w]; rw [c4b0]) | skip)
   have H' := za H
   clear H
   go_wp2
   repeat (go_quiet (fail); try go_wp2)
   go_meet
   case rel => exact ⟨_, (decide ((l1.length : Int) > 5)), zG129, H', ⟨zH126⟩, ⟨zH99⟩⟩
  rw [if_pos c4] at H
  have c4b0 : decide (8 < (l0.length : Int)) = true := decide_eq_true c4
  have c4b1 : decide (8 < l0.length) = true := decide_eq_true (by omega)
  clear c4
  (first | rw [c4b0] | (simp only [i64_w, i32_w]; rw [c4b0]) | skip)
  have H' := za H
  clear H
  go_wp2
  repeat (go_quiet (fail); try go_wp2)
  go_meet
  case rel => exact ⟨_, (true), zG129, H', ⟨zH126⟩, ⟨zH99⟩⟩
 case rest =>
  clear HC3
  try clear c1
  try clear c4
  try clear c4b0
  try clear c4b1
  obtain ⟨kq, x18_2, rfl, HA, HJ2, HB⟩ := hcut
  cases kq with
  | zero => exact absurd HA.out (by simp [spec_ShiftsOK.j0])
  | succ kj2 =>
   have H := HA.out
   clear HA
   simp only [spec_ShiftsOK.j0] at H
   by_cases c5 : x18_2 = true
   ·subst c5
    have H1 : (some false) = some r := by rw [if_pos rfl] at H; exact H
    clear H
    have H := H1
    clear H1
    obtain rfl := Option.some.inj H
    go_wp2
    repeat (go_quiet (fail); try go_wp2)
    go_ret
    exact zH38
   replace c5 := Bool.eq_false_iff.mpr c5
   subst c5
   have H1 : (spec_ShiftsOK.l0 kj2 l0 l1 0) = some r := by rw [if_neg (show ¬ (false = true) by decide)] at H; exact H
   clear H
   have H := H1
   clear H1
   have H' := za H
   clear H
   go_wp2
   repeat (go_quiet (fail); try go_wp2)
   go_loopg [5] kj2 (fun kq v5 w' => ∃ (x5_2 : Int), v5 = .int .i64 x5_2 ∧ Aside0 (spec_ShiftsOK.l0 kq l0 l1 x5_2 = some r) ∧ Aside0 (kq ≤ kj2) ∧ Aside0 (Below w.heap.size w w'))
   case atStart => exact ⟨(0), zG129, H', ⟨Nat.le_refl _⟩, ⟨zH99⟩⟩
   case round =>
    clear H'
    try clear c1
    try clear c4
    try clear c4b0
    try clear c4b1
    try clear c5
    obtain ⟨x5_2, rfl, HA, HK2, HB⟩ := hrel
    cases gk with
    | zero => exact absurd HA.out (by simp [spec_ShiftsOK.l0])
    | succ k2 =>
     have H := HA.out
     clear HA
     simp only [spec_ShiftsOK.l0] at H
     by_cases c6 : x5_2 < (l0.length : Int)
     ·rw [if_pos c6] at H
      have c6b0 := decide_eq_true c6
      clear c6
      by_cases c7 : 0 ≤ x5_2
      rotate_left
      ·rw [if_neg c7] at H
       exact absurd H (by simp)
      rw [if_pos c7] at H
      have c7b0 := decide_eq_true c7
      clear c7
      have HC8 := za H
      clear H
      have p312 : 0 ≤ (x5_2 : Int) := zO
      have q312 : x5_2 < (l0.length : Int) := zO
      obtain ⟨ad312, e312, hx312_0, hx312_1, hx312_2⟩ := at_T139 HR0.out x5_2 p312 q312
      cases e312
      replace hx312_0 := (HB.out.cell (zb w _ hx312_0)).trans hx312_0
      replace hx312_1 := (HB.out.cell (zb w _ hx312_1)).trans hx312_1
      replace hx312_2 := (HB.out.cell (zb w _ hx312_2)).trans hx312_2
      replace p312 := eq_true p312
      replace q312 := eq_true q312
      go_upto_region 7 with (first | ((with_reducible refine gate_dst (N := 6) rfl ?_); (try (refine gate_guard (by rfl) ?_; dsimp only)); refine box_event ?hg (N := 6) ?hd (cs := #[.int .i64 0, .int .i64 0, .string (⟨#[]⟩ : ByteArray)]) (t := 139) ?hr ?_; (case hd => rfl); (case hg => rfl); (case hr => exact zH125); intro gb313 hg w9 hbox hb; have n_ := zA_ (za (zr zG102 hb)) (zA_ (za (hbox)) (zA_ (zN1 w.heap.size hg (zo zG102)) (zN1 w.heap.size hg (zo zG102)))); clear HB; obtain ⟨HB, BK313, GW313, GE313⟩ := n_; clear hb hbox hg; obtain ⟨hcz10_0, hcz10_1, hcz10_2, hfz10_0, hfz10_1, hfz10_2⟩ := zB3 BK313.out))
      repeat (go_quiet (first | ((with_reducible refine gate_dst (N := 6) rfl ?_); (try (refine gate_guard (by rfl) ?_; dsimp only)); refine box_event ?hg (N := 6) ?hd (cs := #[.int .i64 0, .int .i64 0, .string (⟨#[]⟩ : ByteArray)]) (t := 139) ?hr ?_; (case hd => rfl); (case hg => rfl); (case hr => exact zH125); intro gb313 hg w9 hbox hb; have n_ := zA_ (za (zr zG102 hb)) (zA_ (za (hbox)) (zA_ (zN1 w.heap.size hg (zo zG102)) (zN1 w.heap.size hg (zo zG102)))); clear HB; obtain ⟨HB, BK313, GW313, GE313⟩ := n_; clear hb hbox hg; obtain ⟨hcz10_0, hcz10_1, hcz10_2, hfz10_0, hfz10_1, hfz10_2⟩ := zB3 BK313.out)); go_upto_region 7 with (first | ((with_reducible refine gate_dst (N := 6) rfl ?_); (try (refine gate_guard (by rfl) ?_; dsimp only)); refine box_event ?hg (N := 6) ?hd (cs := #[.int .i64 0, .int .i64 0, .string (⟨#[]⟩ : ByteArray)]) (t := 139) ?hr ?_; (case hd => rfl); (case hg => rfl); (case hr => exact zH125); intro gb313 hg w9 hbox hb; have n_ := zA_ (za (zr zG102 hb)) (zA_ (za (hbox)) (zA_ (zN1 w.heap.size hg (zo zG102)) (zN1 w.heap.size hg (zo zG102)))); clear HB; obtain ⟨HB, BK313, GW313, GE313⟩ := n_; clear hb hbox hg; obtain ⟨hcz10_0, hcz10_1, hcz10_2, hfz10_0, hfz10_1, hfz10_2⟩ := zB3 BK313.out)))
      (try simp only [Act.put, List.setIfInBounds_toArray, List.set_cons_zero, List.set_cons_succ])
      go_cut [49] (fun v49 wc => ∃ (kq : Nat) (x49_7 : Bool), v49 = .bool x49_7 ∧ Aside0 (spec_ShiftsOK.j2 kq l0 l1 x5_2 x49_7 ((rd_T139 l0 x5_2).f0) ((rd_T139 l0 x5_2).f1) ((rd_T139 l0 x5_2).f2) = some r) ∧ Aside0 (kq ≤ k2) ∧ Aside0 (wc.heap[gb313]? = some (.cells #[.int .i64 ((rd_T139 l0 x5_2).f0), .int .i64 ((rd_T139 l0 x5_2).f1), .string ((rd_T139 l0 x5_2).f2)] 139 (0, 0))) ∧ Aside0 (Below w.heap.size w wc))
      case first =>
       have H := HC8.out
       clear HC8
       by_cases c11 : ((rd_T139 l0 x5_2).f0) < 0
       ·rw [if_pos c11] at H
        have c11b0 := decide_eq_true c11
        clear c11
        (first | rw [c11b0] | (simp only [i64_w, i32_w]; rw [c11b0]) | skip)
        have H' := za H
        clear H
        obtain ⟨hcz12_0, hcz12_1, hcz12_2, hfz12_0, hfz12_1, hfz12_2⟩ := zB3 BK313.out
        go_wp2
        repeat (go_quiet (fail); try go_wp2)
        go_meet
        case rel => exact ⟨_, (true), zG129, H', ⟨zH119⟩, ⟨zH3⟩, ⟨zH83⟩⟩
       rw [if_neg c11] at H
       have c11b0 := decide_eq_false c11
       clear c11
       (first | rw [c11b0] | (simp only [i64_w, i32_w]; rw [c11b0]) | skip)
       by_cases c13 : ((rd_T139 l0 x5_2).f0) ≥ ((rd_T139 l0 x5_2).f1)
       ·rw [if_pos c13] at H
        have c13b0 : decide (((rd_T139 l0 x5_2).f1) ≤ ((rd_T139 l0 x5_2).f0)) = true := decide_eq_true c13
        clear c13
        have H' := za H
        clear H
        obtain ⟨hcz14_0, hcz14_1, hcz14_2, hfz14_0, hfz14_1, hfz14_2⟩ := zB3 BK313.out
        go_wp2
        repeat (go_quiet (fail); try go_wp2)
        go_meet
        case rel => exact ⟨_, (true), zG129, H', ⟨zH119⟩, ⟨zH3⟩, ⟨zH83⟩⟩
       rw [if_neg c13] at H
       have c13b0 : decide (((rd_T139 l0 x5_2).f1) ≤ ((rd_T139 l0 x5_2).f0)) = false := decide_eq_false c13
       clear c13
       by_cases c15 : ((rd_T139 l0 x5_2).f1) > 10080
       ·rw [if_pos c15] at H
        have c15b0 : decide (10080 < ((rd_T139 l0 x5_2).f1)) = true := decide_eq_true c15
        clear c15
        have H' := za H
        clear H
        obtain ⟨hcz16_0, hcz16_1, hcz16_2, hfz16_0, hfz16_1, hfz16_2⟩ := zB3 BK313.out
        go_wp2
        repeat (go_quiet (fail); try go_wp2)
        go_meet
        case rel => exact ⟨_, (true), zG129, H', ⟨zH119⟩, ⟨zH3⟩, ⟨zH83⟩⟩
       rw [if_neg c15] at H
       have c15b0 : decide (10080 < ((rd_T139 l0 x5_2).f1)) = false := decide_eq_false c15
       clear c15
       replace H := Option.bind_eq_some_iff.mp H
       obtain ⟨t314, A170, H⟩ := H
       replace H : (spec_ShiftsOK.j2 k2 l0 l1 x5_2 (!t314) ((rd_T139 l0 x5_2).f0) ((rd_T139 l0 x5_2).f1) ((rd_T139 l0 x5_2).f2)) = some r := H
       have A17 := za A170
       clear A170
       have H' := za H
       clear H
       obtain ⟨hcz18_0, hcz18_1, hcz18_2, hfz18_0, hfz18_1, hfz18_2⟩ := zB3 BK313.out
       go_wp2_with (first | (go_at_call 134; (with_reducible refine (spec_NameOK.calls k2 ((rd_T139 l0 x5_2).f2) t314 _ A17.out).mono ?_); rintro e w' ⟨rfl, ⟨nd, rfl⟩⟩; (try first | exact ⟨rfl, _, World.drewN_drewN _ _ _⟩ | exact ⟨rfl, _, Eq.trans (World.drewN_drewN _ _ _) (congrArg (World.drewN _) (Nat.add_assoc _ _ _))⟩)))
       repeat (go_quiet (first | (go_at_call 134; (with_reducible refine (spec_NameOK.calls k2 ((rd_T139 l0 x5_2).f2) t314 _ A17.out).mono ?_); rintro e w' ⟨rfl, ⟨nd, rfl⟩⟩; (try first | exact ⟨rfl, _, World.drewN_drewN _ _ _⟩ | exact ⟨rfl, _, Eq.trans (World.drewN_drewN _ _ _) (congrArg (World.drewN _) (Nat.add_assoc _ _ _))⟩))); try go_wp2_with (first | (go_at_call 134; (with_reducible refine (spec_NameOK.calls k2 ((rd_T139 l0 x5_2).f2) t314 _ A17.out).mono ?_); rintro e w' ⟨rfl, ⟨nd, rfl⟩⟩; (try first | exact ⟨rfl, _, World.drewN_drewN _ _ _⟩ | exact ⟨rfl, _, Eq.trans (World.drewN_drewN _ _ _) (congrArg (World.drewN _) (Nat.add_assoc _ _ _))⟩))))
       go_meet
       case rel => exact ⟨_, (!t314), zG129, H', ⟨zH119⟩, ⟨zH3⟩, ⟨zH83⟩⟩
      case rest =>
       clear HC8
       try clear c1
       try clear c4
       try clear c4b0
       try clear c4b1
       try clear c5
       try clear c6
       try clear c6b0
       try clear c7
       try clear c7b0
       try clear c11
       try clear c11b0
       try clear c13
       try clear c13b0
       try clear c15
       try clear c15b0
       try clear hcz10_0
       try clear hcz10_1
       try clear hcz10_2
       try clear hcz12_0
       try clear hcz12_1
       try clear hcz12_2
       try clear hcz14_0
       try clear hcz14_1
       try clear hcz14_2
       try clear hcz16_0
       try clear hcz16_1
       try clear hcz16_2
       try clear hcz18_0
       try clear hcz18_1
       try clear hcz18_2
       try clear hfz10_0
       try clear hfz10_1
       try clear hfz10_2
       try clear hfz12_0
       try clear hfz12_1
       try clear hfz12_2
       try clear hfz14_0
       try clear hfz14_1
       try clear hfz14_2
       try clear hfz16_0
       try clear hfz16_1
       try clear hfz16_2
       try clear hfz18_0
       try clear hfz18_1
       try clear hfz18_2
       try clear hx312_0
       try clear hx312_1
       try clear hx312_2
       try clear p312
       try clear q312
       obtain ⟨kq, x49_7, rfl, HA, HJ7, BK313, HB⟩ := hcut
       cases kq with
       | zero => exact absurd HA.out (by simp [spec_ShiftsOK.j2])
       | succ kj7 =>
        have H := HA.out
        clear HA
        simp only [spec_ShiftsOK.j2] at H
        by_cases c19 : x49_7 = true
        ·subst c19
         have H1 : (some false) = some r := by rw [if_pos rfl] at H; exact H
         clear H
         have H := H1
         clear H1
         obtain rfl := Option.some.inj H
         go_wp2
         repeat (go_quiet (fail); try go_wp2)
         go_ret
         exact ⟨zH113, zH83⟩
        replace c19 := Bool.eq_false_iff.mpr c19
        subst c19
        have H1 : (if x5_2 > 0 then (if 0 ≤ (wrap64 (x5_2 - 1)) then (if (wrap64 (x5_2 - 1)) < (l0.length : Int) then (if ((rd_T139 l0 x5_2).f0) < ((rd_T139 l0 (wrap64 (x5_2 - 1))).f0) then (some false) else (spec_ShiftsOK.l0 kj7 l0 l1 (wrap64 (x5_2 + 1)))) else (none)) else (none)) else (spec_ShiftsOK.l0 kj7 l0 l1 (wrap64 (x5_2 + 1)))) = some r := by rw [if_neg (show ¬ (false = true) by decide)] at H; exact H
        clear H
        have H := H1
        clear H1
        by_cases c20 : x5_2 > 0
        rotate_left
        ·rw [if_neg c20] at H
         have c20b0 : decide (0 < x5_2) = false := decide_eq_false c20
         clear c20
         have H' := za H
         clear H
         go_wp2
         repeat (go_quiet (fail); try go_wp2)
         go_roundg kj7
         case measure => have := HJ2.out; have := HK2.out; have := HJ7.out; omega
         case rel => exact ⟨(wrap64 (x5_2 + 1)), zG129, H', ⟨by have := HJ2.out; have := HK2.out; have := HJ7.out; omega⟩, ⟨zH83⟩⟩
        rw [if_pos c20] at H
        have c20b0 : decide (0 < x5_2) = true := decide_eq_true c20
        clear c20
        obtain ⟨ji21, hji21⟩ : ∃ j_ : Int, (wrap64 (x5_2 - 1)) = j_ := ⟨_, rfl⟩
        replace H : (if 0 ≤ (ji21) then (if (ji21) < (l0.length : Int) then (if ((rd_T139 l0 x5_2).f0) < ((rd_T139 l0 (ji21)).f0) then (some false) else (spec_ShiftsOK.l0 kj7 l0 l1 (wrap64 (x5_2 + 1)))) else (none)) else (none)) = some r := by first | (rw [hji21] at H; exact H) | (simp only [hji21] at H ⊢; exact H)
        have hji21w : (IntKind.i64.wrap (x5_2 - 1)) = ji21 := (i64_w _).trans hji21
        by_cases c22 : 0 ≤ (ji21)
        rotate_left
        ·rw [if_neg c22] at H
         exact absurd H (by simp)
        rw [if_pos c22] at H
        have c22b0 := decide_eq_true c22
        clear c22
        by_cases c23 : (ji21) < (l0.length : Int)
        rotate_left
        ·rw [if_neg c23] at H
         exact absurd H (by simp)
        rw [if_pos c23] at H
        have c23b0 := decide_eq_true c23
        clear c23
        by_cases c24 : ((rd_T139 l0 x5_2).f0) < ((rd_T139 l0 (ji21)).f0)
        ·rw [if_pos c24] at H
         have c24b0 := decide_eq_true c24
         clear c24
         obtain rfl := Option.some.inj H
         obtain ⟨hcz25_0, hcz25_1, hcz25_2, hfz25_0, hfz25_1, hfz25_2⟩ := zB3 BK313.out
         have p315 : 0 ≤ ((ji21) : Int) := zO
         have q315 : (ji21) < (l0.length : Int) := zO
         obtain ⟨ad315, e315, hx315_0, hx315_1, hx315_2⟩ := at_T139 HR0.out (ji21) p315 q315
         obtain rfl : ad312 = ad315 := (by injection e315)
         replace hx315_0 := (HB.out.cell (zb w _ hx315_0)).trans hx315_0
         replace hx315_1 := (HB.out.cell (zb w _ hx315_1)).trans hx315_1
         replace hx315_2 := (HB.out.cell (zb w _ hx315_2)).trans hx315_2
         replace p315 := eq_true p315
         replace q315 := eq_true q315
         go_wp2
         repeat (go_quiet (fail); try go_wp2)
         go_ret
         exact ⟨by first | rfl | (simp [errW_none, errW_some] <;> rfl) | (simp only [← hji21]; first | rfl | (simp [errW_none, errW_some] <;> rfl)) | (simp [*, errW_none, errW_some] <;> rfl), zH83⟩
        rw [if_neg c24] at H
        have c24b0 := decide_eq_false c24
        clear c24
        have H' := za H
        clear H
        obtain ⟨hcz26_0, hcz26_1, hcz26_2, hfz26_0, hfz26_1, hfz26_2⟩ := zB3 BK313.out
        have p315 : 0 ≤ ((ji21) : Int) := zO
        have q315 : (ji21) < (l0.length : Int) := zO
        obtain ⟨ad315, e315, hx315_0, hx315_1, hx315_2⟩ := at_T139 HR0.out (ji21) p315 q315
        obtain rfl : ad312 = ad315 := (by injection e315)
        replace hx315_0 := (HB.out.cell (zb w _ hx315_0)).trans hx315_0
        replace hx315_1 := (HB.out.cell (zb w _ hx315_1)).trans hx315_1
        replace hx315_2 := (HB.out.cell (zb w _ hx315_2)).trans hx315_2
        replace p315 := eq_true p315
        replace q315 := eq_true q315
        go_wp2
        repeat (go_quiet (fail); try go_wp2)
        go_roundg kj7
        case measure => have := HJ2.out; have := HK2.out; have := HJ7.out; omega
        case rel => exact ⟨(wrap64 (x5_2 + 1)), zG129, H', ⟨by have := HJ2.out; have := HK2.out; have := HJ7.out; omega⟩, ⟨zH83⟩⟩
     rw [if_neg c6] at H
     have c6b0 := decide_eq_false c6
     clear c6
     have H' := za H
     clear H
     go_wp2
     repeat (go_quiet (fail); try go_wp2)
     go_loopg [7] k2 (fun kq v7 w' => ∃ (x7_3 : Int), v7 = .int .i64 x7_3 ∧ Aside0 (spec_ShiftsOK.l1 kq l1 x7_3 = some r) ∧ Aside0 (kq ≤ k2) ∧ Aside0 (Below w.heap.size w w'))
     case atStart => exact ⟨(0), zG129, H', ⟨Nat.le_refl _⟩, ⟨zH99⟩⟩
     case round =>
      clear H'
      try clear c1
      try clear c4
      try clear c4b0
      try clear c4b1
      try clear c5
      try clear c6
      try clear c6b0
      try clear c7
      try clear c7b0
      try clear c11
      try clear c11b0
      try clear c13
      try clear c13b0
      try clear c15
      try clear c15b0
      try clear c19
      try clear c20
      try clear c20b0
      try clear c22
      try clear c22b0
      try clear c23
      try clear c23b0
      try clear c24
      try clear c24b0
      try clear hcz10_0
      try clear hcz10_1
      try clear hcz10_2
      try clear hcz12_0
      try clear hcz12_1
      try clear hcz12_2
      try clear hcz14_0
      try clear hcz14_1
      try clear hcz14_2
      try clear hcz16_0
      try clear hcz16_1
      try clear hcz16_2
      try clear hcz18_0
      try clear hcz18_1
      try clear hcz18_2
      try clear hcz25_0
      try clear hcz25_1
      try clear hcz25_2
      try clear hcz26_0
      try clear hcz26_1
      try clear hcz26_2
      try clear hfz10_0
      try clear hfz10_1
      try clear hfz10_2
      try clear hfz12_0
      try clear hfz12_1
      try clear hfz12_2
      try clear hfz14_0
      try clear hfz14_1
      try clear hfz14_2
      try clear hfz16_0
      try clear hfz16_1
      try clear hfz16_2
      try clear hfz18_0
      try clear hfz18_1
      try clear hfz18_2
      try clear hfz25_0
      try clear hfz25_1
      try clear hfz25_2
      try clear hfz26_0
      try clear hfz26_1
      try clear hfz26_2
      try clear hx312_0
      try clear hx312_1
      try clear hx312_2
      try clear hx315_0
      try clear hx315_1
      try clear hx315_2
      try clear p312
      try clear p315
      try clear q312
      try clear q315
      obtain ⟨x7_3, rfl, HA, HK3, HB⟩ := hrel
      cases gk with
      | zero => exact absurd HA.out (by simp [spec_ShiftsOK.l1])
      | succ k3 =>
       have H := HA.out
       clear HA
       simp only [spec_ShiftsOK.l1] at H
       by_cases c27 : x7_3 < (l1.length : Int)
       rotate_left
       ·rw [if_neg c27] at H
        have c27b0 := decide_eq_false c27
        clear c27
        obtain rfl := Option.some.inj H
        go_wp2
        repeat (go_quiet (fail); try go_wp2)
        go_ret
        exact zH38

       rw [if_pos c27] at H
       have c27b0 := decide_eq_true c27
       clear c27
       by_cases c28 : 0 ≤ x7_3
       rotate_left
       ·rw [if_neg c28] at H
        exact absurd H (by simp)
       rw [if_pos c28] at H
       have c28b0 := decide_eq_true c28
       clear c28
       have HC29 := za H
       clear H
       have p316 : 0 ≤ (x7_3 : Int) := zO
       have q316 : x7_3 < (l1.length : Int) := zO
       obtain ⟨ad316, A316_4, c316_4, e316, hx316_0, hx316_1, hx316_2, hx316_3, hx316_4, hl316_4, hi316_4⟩ := at_T72 HR1.out x7_3 p316 q316
       cases e316
       replace hx316_0 := (HB.out.cell (zb w _ hx316_0)).trans hx316_0
       replace hx316_1 := (HB.out.cell (zb w _ hx316_1)).trans hx316_1
       replace hx316_2 := (HB.out.cell (zb w _ hx316_2)).trans hx316_2
       replace hx316_3 := (HB.out.cell (zb w _ hx316_3)).trans hx316_3
       replace hx316_4 := (HB.out.cell (zb w _ hx316_4)).trans hx316_4
       obtain ⟨HR316_4, HC316_4⟩ := zD2 hi316_4 hl316_4
       clear hi316_4 hl316_4
       replace p316 := eq_true p316
       replace q316 := eq_true q316
       go_upto_region 15 with (first | ((with_reducible refine gate_dst (N := 8) rfl ?_); (try (refine gate_guard (by rfl) ?_; dsimp only)); refine box_event ?hg (N := 8) ?hd (cs := #[.string (⟨#[]⟩ : ByteArray), .int .i64 0, .int .i64 0, .int .i64 0, .slice none 0 0]) (t := 72) ?hr ?_; (case hd => rfl); (case hg => rfl); (case hr => exact zH125); intro gb317 hg w30 hbox hb; have n_ := zA_ (za (zr zG102 hb)) (zA_ (za (hbox)) (zA_ (zN1 w.heap.size hg (zo zG102)) (zN1 w.heap.size hg (zo zG102)))); clear HB; obtain ⟨HB, BK317, GW317, GE317⟩ := n_; clear hb hbox hg; obtain ⟨hcz31_0, hcz31_1, hcz31_2, hcz31_3, hcz31_4, hfz31_0, hfz31_1, hfz31_2, hfz31_3, hfz31_4⟩ := zB5 BK317.out))
       repeat (go_quiet (first | ((with_reducible refine gate_dst (N := 8) rfl ?_); (try (refine gate_guard (by rfl) ?_; dsimp only)); refine box_event ?hg (N := 8) ?hd (cs := #[.string (⟨#[]⟩ : ByteArray), .int .i64 0, .int .i64 0, .int .i64 0, .slice none 0 0]) (t := 72) ?hr ?_; (case hd => rfl); (case hg => rfl); (case hr => exact zH125); intro gb317 hg w30 hbox hb; have n_ := zA_ (za (zr zG102 hb)) (zA_ (za (hbox)) (zA_ (zN1 w.heap.size hg (zo zG102)) (zN1 w.heap.size hg (zo zG102)))); clear HB; obtain ⟨HB, BK317, GW317, GE317⟩ := n_; clear hb hbox hg; obtain ⟨hcz31_0, hcz31_1, hcz31_2, hcz31_3, hcz31_4, hfz31_0, hfz31_1, hfz31_2, hfz31_3, hfz31_4⟩ := zB5 BK317.out)); go_upto_region 15 with (first | ((with_reducible refine gate_dst (N := 8) rfl ?_); (try (refine gate_guard (by rfl) ?_; dsimp only)); refine box_event ?hg (N := 8) ?hd (cs := #[.string (⟨#[]⟩ : ByteArray), .int .i64 0, .int .i64 0, .int .i64 0, .slice none 0 0]) (t := 72) ?hr ?_; (case hd => rfl); (case hg => rfl); (case hr => exact zH125); intro gb317 hg w30 hbox hb; have n_ := zA_ (za (zr zG102 hb)) (zA_ (za (hbox)) (zA_ (zN1 w.heap.size hg (zo zG102)) (zN1 w.heap.size hg (zo zG102)))); clear HB; obtain ⟨HB, BK317, GW317, GE317⟩ := n_; clear hb hbox hg; obtain ⟨hcz31_0, hcz31_1, hcz31_2, hcz31_3, hcz31_4, hfz31_0, hfz31_1, hfz31_2, hfz31_3, hfz31_4⟩ := zB5 BK317.out)))
       (try simp only [Act.put, List.setIfInBounds_toArray, List.set_cons_zero, List.set_cons_succ])
       go_cut [100] (fun v100 wc => ∃ (kq : Nat) (x100_28 : Bool), v100 = .bool x100_28 ∧ Aside0 (spec_ShiftsOK.j4 kq l1 x7_3 x100_28 ((rd_T72 l1 x7_3).f0) ((rd_T72 l1 x7_3).f1) ((rd_T72 l1 x7_3).f2) ((rd_T72 l1 x7_3).f3) ((rd_T72 l1 x7_3).f4) = some r) ∧ Aside0 (kq ≤ k3) ∧ Aside0 (wc.heap[gb317]? = some (.cells #[.string ((rd_T72 l1 x7_3).f0), .int .i64 ((rd_T72 l1 x7_3).f1), .int .i64 ((rd_T72 l1 x7_3).f2), .int .i64 ((rd_T72 l1 x7_3).f3), (.slice A316_4 ((rd_T72 l1 x7_3).f4).length c316_4)] 72 (0, 0))) ∧ Aside0 (Below w.heap.size w wc))
       case first =>
        have H := HC29.out
        clear HC29
        replace H := Option.bind_eq_some_iff.mp H
        obtain ⟨t318, A320, H⟩ := H
        replace H : (if t318 = true then ((spec_l01In.f ((rd_T72 l1 x7_3).f1) 0 10080).bind fun t319 => (if t319 = true then ((spec_l01In.f ((rd_T72 l1 x7_3).f2) 0 10080).bind fun t320 => (if t320 = true then ((spec_l01In.f ((rd_T72 l1 x7_3).f3) 0 1000).bind fun t321 => (if t321 = true then (spec_ShiftsOK.j4 k3 l1 x7_3 (decide ((((rd_T72 l1 x7_3).f4).length : Int) > 6)) ((rd_T72 l1 x7_3).f0) ((rd_T72 l1 x7_3).f1) ((rd_T72 l1 x7_3).f2) ((rd_T72 l1 x7_3).f3) ((rd_T72 l1 x7_3).f4)) else (spec_ShiftsOK.j4 k3 l1 x7_3 true ((rd_T72 l1 x7_3).f0) ((rd_T72 l1 x7_3).f1) ((rd_T72 l1 x7_3).f2) ((rd_T72 l1 x7_3).f3) ((rd_T72 l1 x7_3).f4)))) else (spec_ShiftsOK.j4 k3 l1 x7_3 true ((rd_T72 l1 x7_3).f0) ((rd_T72 l1 x7_3).f1) ((rd_T72 l1 x7_3).f2) ((rd_T72 l1 x7_3).f3) ((rd_T72 l1 x7_3).f4)))) else (spec_ShiftsOK.j4 k3 l1 x7_3 true ((rd_T72 l1 x7_3).f0) ((rd_T72 l1 x7_3).f1) ((rd_T72 l1 x7_3).f2) ((rd_T72 l1 x7_3).f3) ((rd_T72 l1 x7_3).f4)))) else (spec_ShiftsOK.j4 k3 l1 x7_3 true ((rd_T72 l1 x7_3).f0) ((rd_T72 l1 x7_3).f1) ((rd_T72 l1 x7_3).f2) ((rd_T72 l1 x7_3).f3) ((rd_T72 l1 x7_3).f4))) = some r := H
        have A32 := za A320
        clear A320
        by_cases c33 : t318 = true
        rotate_left
        ·replace c33 := Bool.eq_false_iff.mpr c33
         subst c33
         have H1 : (spec_ShiftsOK.j4 k3 l1 x7_3 true ((rd_T72 l1 x7_3).f0) ((rd_T72 l1 x7_3).f1) ((rd_T72 l1 x7_3).f2) ((rd_T72 l1 x7_3).f3) ((rd_T72 l1 x7_3).f4)) = some r := by rw [if_neg (show ¬ (false = true) by decide)] at H; exact H
         clear H
         have H := H1
         clear H1
         have H' := za H
         clear H
         obtain ⟨hcz44_0, hcz44_1, hcz44_2, hcz44_3, hcz44_4, hfz44_0, hfz44_1, hfz44_2, hfz44_3, hfz44_4⟩ := zB5 BK317.out
         go_wp2_with (first | (go_at_call 134; (with_reducible refine (spec_NameOK.calls k3 ((rd_T72 l1 x7_3).f0) false _ A32.out).mono ?_); rintro e w' ⟨rfl, ⟨nd, rfl⟩⟩; (try first | exact ⟨rfl, _, World.drewN_drewN _ _ _⟩ | exact ⟨rfl, _, Eq.trans (World.drewN_drewN _ _ _) (congrArg (World.drewN _) (Nat.add_assoc _ _ _))⟩)))
         repeat (go_quiet (first | (go_at_call 134; (with_reducible refine (spec_NameOK.calls k3 ((rd_T72 l1 x7_3).f0) false _ A32.out).mono ?_); rintro e w' ⟨rfl, ⟨nd, rfl⟩⟩; (try first | exact ⟨rfl, _, World.drewN_drewN _ _ _⟩ | exact ⟨rfl, _, Eq.trans (World.drewN_drewN _ _ _) (congrArg (World.drewN _) (Nat.add_assoc _ _ _))⟩))); try go_wp2_with (first | (go_at_call 134; (with_reducible refine (spec_NameOK.calls k3 ((rd_T72 l1 x7_3).f0) false _ A32.out).mono ?_); rintro e w' ⟨rfl, ⟨nd, rfl⟩⟩; (try first | exact ⟨rfl, _, World.drewN_drewN _ _ _⟩ | exact ⟨rfl, _, Eq.trans (World.drewN_drewN _ _ _) (congrArg (World.drewN _) (Nat.add_assoc _ _ _))⟩))))
         go_meet
         case rel => exact ⟨_, (true), zG129, H', ⟨zH114⟩, ⟨zH0⟩, ⟨zH86⟩⟩
        subst c33
        have H1 : ((spec_l01In.f ((rd_T72 l1 x7_3).f1) 0 10080).bind fun t319 => (if t319 = true then ((spec_l01In.f ((rd_T72 l1 x7_3).f2) 0 10080).bind fun t320 => (if t320 = true then ((spec_l01In.f ((rd_T72 l1 x7_3).f3) 0 1000).bind fun t321 => (if t321 = true then (spec_ShiftsOK.j4 k3 l1 x7_3 (decide ((((rd_T72 l1 x7_3).f4).length : Int) > 6)) ((rd_T72 l1 x7_3).f0) ((rd_T72 l1 x7_3).f1) ((rd_T72 l1 x7_3).f2) ((rd_T72 l1 x7_3).f3) ((rd_T72 l1 x7_3).f4)) else (spec_ShiftsOK.j4 k3 l1 x7_3 true ((rd_T72 l1 x7_3).f0) ((rd_T72 l1 x7_3).f1) ((rd_T72 l1 x7_3).f2) ((rd_T72 l1 x7_3).f3) ((rd_T72 l1 x7_3).f4)))) else (spec_ShiftsOK.j4 k3 l1 x7_3 true ((rd_T72 l1 x7_3).f0) ((rd_T72 l1 x7_3).f1) ((rd_T72 l1 x7_3).f2) ((rd_T72 l1 x7_3).f3) ((rd_T72 l1 x7_3).f4)))) else (spec_ShiftsOK.j4 k3 l1 x7_3 true ((rd_T72 l1 x7_3).f0) ((rd_T72 l1 x7_3).f1) ((rd_T72 l1 x7_3).f2) ((rd_T72 l1 x7_3).f3) ((rd_T72 l1 x7_3).f4)))) = some r := by rw [if_pos rfl] at H; exact H
        clear H
        have H := H1
        clear H1
        replace H := Option.bind_eq_some_iff.mp H
        obtain ⟨t319, A340, H⟩ := H
        replace H : (if t319 = true then ((spec_l01In.f ((rd_T72 l1 x7_3).f2) 0 10080).bind fun t320 => (if t320 = true then ((spec_l01In.f ((rd_T72 l1 x7_3).f3) 0 1000).bind fun t321 => (if t321 = true then (spec_ShiftsOK.j4 k3 l1 x7_3 (decide ((((rd_T72 l1 x7_3).f4).length : Int) > 6)) ((rd_T72 l1 x7_3).f0) ((rd_T72 l1 x7_3).f1) ((rd_T72 l1 x7_3).f2) ((rd_T72 l1 x7_3).f3) ((rd_T72 l1 x7_3).f4)) else (spec_ShiftsOK.j4 k3 l1 x7_3 true ((rd_T72 l1 x7_3).f0) ((rd_T72 l1 x7_3).f1) ((rd_T72 l1 x7_3).f2) ((rd_T72 l1 x7_3).f3) ((rd_T72 l1 x7_3).f4)))) else (spec_ShiftsOK.j4 k3 l1 x7_3 true ((rd_T72 l1 x7_3).f0) ((rd_T72 l1 x7_3).f1) ((rd_T72 l1 x7_3).f2) ((rd_T72 l1 x7_3).f3) ((rd_T72 l1 x7_3).f4)))) else (spec_ShiftsOK.j4 k3 l1 x7_3 true ((rd_T72 l1 x7_3).f0) ((rd_T72 l1 x7_3).f1) ((rd_T72 l1 x7_3).f2) ((rd_T72 l1 x7_3).f3) ((rd_T72 l1 x7_3).f4))) = some r := H
        have A34 := za A340
        clear A340
        by_cases c35 : t319 = true
        rotate_left
        ·replace c35 := Bool.eq_false_iff.mpr c35
         subst c35
         have H1 : (spec_ShiftsOK.j4 k3 l1 x7_3 true ((rd_T72 l1 x7_3).f0) ((rd_T72 l1 x7_3).f1) ((rd_T72 l1 x7_3).f2) ((rd_T72 l1 x7_3).f3) ((rd_T72 l1 x7_3).f4)) = some r := by rw [if_neg (show ¬ (false = true) by decide)] at H; exact H
         clear H
         have H := H1
         clear H1
         have H' := za H
         clear H
         obtain ⟨hcz43_0, hcz43_1, hcz43_2, hcz43_3, hcz43_4, hfz43_0, hfz43_1, hfz43_2, hfz43_3, hfz43_4⟩ := zB5 BK317.out
         go_wp2_with (first | (go_at_call 134; (with_reducible refine (spec_NameOK.calls k3 ((rd_T72 l1 x7_3).f0) true _ A32.out).mono ?_); rintro e w' ⟨rfl, ⟨nd, rfl⟩⟩; (try first | exact ⟨rfl, _, World.drewN_drewN _ _ _⟩ | exact ⟨rfl, _, Eq.trans (World.drewN_drewN _ _ _) (congrArg (World.drewN _) (Nat.add_assoc _ _ _))⟩)) | (go_at_call 122; (with_reducible refine (spec_l01In.calls ((rd_T72 l1 x7_3).f1) 0 10080 false _ A34.out).mono ?_); rintro e w' ⟨rfl, ⟨nd, rfl⟩⟩; (try first | exact ⟨rfl, _, World.drewN_drewN _ _ _⟩ | exact ⟨rfl, _, Eq.trans (World.drewN_drewN _ _ _) (congrArg (World.drewN _) (Nat.add_assoc _ _ _))⟩)))
         repeat (go_quiet (first | (go_at_call 134; (with_reducible refine (spec_NameOK.calls k3 ((rd_T72 l1 x7_3).f0) true _ A32.out).mono ?_); rintro e w' ⟨rfl, ⟨nd, rfl⟩⟩; (try first | exact ⟨rfl, _, World.drewN_drewN _ _ _⟩ | exact ⟨rfl, _, Eq.trans (World.drewN_drewN _ _ _) (congrArg (World.drewN _) (Nat.add_assoc _ _ _))⟩)) | (go_at_call 122; (with_reducible refine (spec_l01In.calls ((rd_T72 l1 x7_3).f1) 0 10080 false _ A34.out).mono ?_); rintro e w' ⟨rfl, ⟨nd, rfl⟩⟩; (try first | exact ⟨rfl, _, World.drewN_drewN _ _ _⟩ | exact ⟨rfl, _, Eq.trans (World.drewN_drewN _ _ _) (congrArg (World.drewN _) (Nat.add_assoc _ _ _))⟩))); try go_wp2_with (first | (go_at_call 134; (with_reducible refine (spec_NameOK.calls k3 ((rd_T72 l1 x7_3).f0) true _ A32.out).mono ?_); rintro e w' ⟨rfl, ⟨nd, rfl⟩⟩; (try first | exact ⟨rfl, _, World.drewN_drewN _ _ _⟩ | exact ⟨rfl, _, Eq.trans (World.drewN_drewN _ _ _) (congrArg (World.drewN _) (Nat.add_assoc _ _ _))⟩)) | (go_at_call 122; (with_reducible refine (spec_l01In.calls ((rd_T72 l1 x7_3).f1) 0 10080 false _ A34.out).mono ?_); rintro e w' ⟨rfl, ⟨nd, rfl⟩⟩; (try first | exact ⟨rfl, _, World.drewN_drewN _ _ _⟩ | exact ⟨rfl, _, Eq.trans (World.drewN_drewN _ _ _) (congrArg (World.drewN _) (Nat.add_assoc _ _ _))⟩))))
         go_meet
         case rel => exact ⟨_, (true), zG129, H', ⟨zH114⟩, ⟨zH0⟩, ⟨zH86⟩⟩
        subst c35
        have H1 : ((spec_l01In.f ((rd_T72 l1 x7_3).f2) 0 10080).bind fun t320 => (if t320 = true then ((spec_l01In.f ((rd_T72 l1 x7_3).f3) 0 1000).bind fun t321 => (if t321 = true then (spec_ShiftsOK.j4 k3 l1 x7_3 (decide ((((rd_T72 l1 x7_3).f4).length : Int) > 6)) ((rd_T72 l1 x7_3).f0) ((rd_T72 l1 x7_3).f1) ((rd_T72 l1 x7_3).f2) ((rd_T72 l1 x7_3).f3) ((rd_T72 l1 x7_3).f4)) else (spec_ShiftsOK.j4 k3 l1 x7_3 true ((rd_T72 l1 x7_3).f0) ((rd_T72 l1 x7_3).f1) ((rd_T72 l1 x7_3).f2) ((rd_T72 l1 x7_3).f3) ((rd_T72 l1 x7_3).f4)))) else (spec_ShiftsOK.j4 k3 l1 x7_3 true ((rd_T72 l1 x7_3).f0) ((rd_T72 l1 x7_3).f1) ((rd_T72 l1 x7_3).f2) ((rd_T72 l1 x7_3).f3) ((rd_T72 l1 x7_3).f4)))) = some r := by rw [if_pos rfl] at H; exact H
        clear H
        have H := H1
        clear H1
        replace H := Option.bind_eq_some_iff.mp H
        obtain ⟨t320, A360, H⟩ := H
        replace H : (if t320 = true then ((spec_l01In.f ((rd_T72 l1 x7_3).f3) 0 1000).bind fun t321 => (if t321 = true then (spec_ShiftsOK.j4 k3 l1 x7_3 (decide ((((rd_T72 l1 x7_3).f4).length : Int) > 6)) ((rd_T72 l1 x7_3).f0) ((rd_T72 l1 x7_3).f1) ((rd_T72 l1 x7_3).f2) ((rd_T72 l1 x7_3).f3) ((rd_T72 l1 x7_3).f4)) else (spec_ShiftsOK.j4 k3 l1 x7_3 true ((rd_T72 l1 x7_3).f0) ((rd_T72 l1 x7_3).f1) ((rd_T72 l1 x7_3).f2) ((rd_T72 l1 x7_3).f3) ((rd_T72 l1 x7_3).f4)))) else (spec_ShiftsOK.j4 k3 l1 x7_3 true ((rd_T72 l1 x7_3).f0) ((rd_T72 l1 x7_3).f1) ((rd_T72 l1 x7_3).f2) ((rd_T72 l1 x7_3).f3) ((rd_T72 l1 x7_3).f4))) = some r := H
        have A36 := za A360
        clear A360
        by_cases c37 : t320 = true
        rotate_left
        ·replace c37 := Bool.eq_false_iff.mpr c37
         subst c37
         have H1 : (spec_ShiftsOK.j4 k3 l1 x7_3 true ((rd_T72 l1 x7_3).f0) ((rd_T72 l1 x7_3).f1) ((rd_T72 l1 x7_3).f2) ((rd_T72 l1 x7_3).f3) ((rd_T72 l1 x7_3).f4)) = some r := by rw [if_neg (show ¬ (false = true) by decide)] at H; exact H
         clear H
         have H := H1
         clear H1
         have H' := za H
         clear H
         obtain ⟨hcz42_0, hcz42_1, hcz42_2, hcz42_3, hcz42_4, hfz42_0, hfz42_1, hfz42_2, hfz42_3, hfz42_4⟩ := zB5 BK317.out
         go_wp2_with (first | (go_at_call 134; (with_reducible refine (spec_NameOK.calls k3 ((rd_T72 l1 x7_3).f0) true _ A32.out).mono ?_); rintro e w' ⟨rfl, ⟨nd, rfl⟩⟩; (try first | exact ⟨rfl, _, World.drewN_drewN _ _ _⟩ | exact ⟨rfl, _, Eq.trans (World.drewN_drewN _ _ _) (congrArg (World.drewN _) (Nat.add_assoc _ _ _))⟩)) | (go_at_call 122; (with_reducible refine (spec_l01In.calls ((rd_T72 l1 x7_3).f1) 0 10080 true _ A34.out).mono ?_); rintro e w' ⟨rfl, ⟨nd, rfl⟩⟩; (try first | exact ⟨rfl, _, World.drewN_drewN _ _ _⟩ | exact ⟨rfl, _, Eq.trans (World.drewN_drewN _ _ _) (congrArg (World.drewN _) (Nat.add_assoc _ _ _))⟩)) | (go_at_call 122; (with_reducible refine (spec_l01In.calls ((rd_T72 l1 x7_3).f2) 0 10080 false _ A36.out).mono ?_); rintro e w' ⟨rfl, ⟨nd, rfl⟩⟩; (try first | exact ⟨rfl, _, World.drewN_drewN _ _ _⟩ | exact ⟨rfl, _, Eq.trans (World.drewN_drewN _ _ _) (congrArg (World.drewN _) (Nat.add_assoc _ _ _))⟩)))
         repeat (go_quiet (first | (go_at_call 134; (with_reducible refine (spec_NameOK.calls k3 ((rd_T72 l1 x7_3).f0) true _ A32.out).mono ?_); rintro e w' ⟨rfl, ⟨nd, rfl⟩⟩; (try first | exact ⟨rfl, _, World.drewN_drewN _ _ _⟩ | exact ⟨rfl, _, Eq.trans (World.drewN_drewN _ _ _) (congrArg (World.drewN _) (Nat.add_assoc _ _ _))⟩)) | (go_at_call 122; (with_reducible refine (spec_l01In.calls ((rd_T72 l1 x7_3).f1) 0 10080 true _ A34.out).mono ?_); rintro e w' ⟨rfl, ⟨nd, rfl⟩⟩; (try first | exact ⟨rfl, _, World.drewN_drewN _ _ _⟩ | exact ⟨rfl, _, Eq.trans (World.drewN_drewN _ _ _) (congrArg (World.drewN _) (Nat.add_assoc _ _ _))⟩)) | (go_at_call 122; (with_reducible refine (spec_l01In.calls ((rd_T72 l1 x7_3).f2) 0 10080 false _ A36.out).mono ?_); rintro e w' ⟨rfl, ⟨nd, rfl⟩⟩; (try first | exact ⟨rfl, _, World.drewN_drewN _ _ _⟩ | exact ⟨rfl, _, Eq.trans (World.drewN_drewN _ _ _) (congrArg (World.drewN _) (Nat.add_assoc _ _ _))⟩))); try go_wp2_with (first | (go_at_call 134; (with_reducible refine (spec_NameOK.calls k3 ((rd_T72 l1 x7_3).f0) true _ A32.out).mono ?_); rintro e w' ⟨rfl, ⟨nd, rfl⟩⟩; (try first | exact ⟨rfl, _, World.drewN_drewN _ _ _⟩ | exact ⟨rfl, _, Eq.trans (World.drewN_drewN _ _ _) (congrArg (World.drewN _) (Nat.add_assoc _ _ _))⟩)) | (go_at_call 122; (with_reducible refine (spec_l01In.calls ((rd_T72 l1 x7_3).f1) 0 10080 true _ A34.out).mono ?_); rintro e w' ⟨rfl, ⟨nd, rfl⟩⟩; (try first | exact ⟨rfl, _, World.drewN_drewN _ _ _⟩ | exact ⟨rfl, _, Eq.trans (World.drewN_drewN _ _ _) (congrArg (World.drewN _) (Nat.add_assoc _ _ _))⟩)) | (go_at_call 122; (with_reducible refine (spec_l01In.calls ((rd_T72 l1 x7_3).f2) 0 10080 false _ A36.out).mono ?_); rintro e w' ⟨rfl, ⟨nd, rfl⟩⟩; (try first | exact ⟨rfl, _, World.drewN_drewN _ _ _⟩ | exact ⟨rfl, _, Eq.trans (World.drewN_drewN _ _ _) (congrArg (World.drewN _) (Nat.add_assoc _ _ _))⟩))))
         go_meet
         case rel => exact ⟨_, (true), zG129, H', ⟨zH114⟩, ⟨zH0⟩, ⟨zH86⟩⟩
        subst c37
        have H1 : ((spec_l01In.f ((rd_T72 l1 x7_3).f3) 0 1000).bind fun t321 => (if t321 = true then (spec_ShiftsOK.j4 k3 l1 x7_3 (decide ((((rd_T72 l1 x7_3).f4).length : Int) > 6)) ((rd_T72 l1 x7_3).f0) ((rd_T72 l1 x7_3).f1) ((rd_T72 l1 x7_3).f2) ((rd_T72 l1 x7_3).f3) ((rd_T72 l1 x7_3).f4)) else (spec_ShiftsOK.j4 k3 l1 x7_3 true ((rd_T72 l1 x7_3).f0) ((rd_T72 l1 x7_3).f1) ((rd_T72 l1 x7_3).f2) ((rd_T72 l1 x7_3).f3) ((rd_T72 l1 x7_3).f4)))) = some r := by rw [if_pos rfl] at H; exact H
        clear H
        have H := H1
        clear H1
        replace H := Option.bind_eq_some_iff.mp H
        obtain ⟨t321, A380, H⟩ := H
        replace H : (if t321 = true then (spec_ShiftsOK.j4 k3 l1 x7_3 (decide ((((rd_T72 l1 x7_3).f4).length : Int) > 6)) ((rd_T72 l1 x7_3).f0) ((rd_T72 l1 x7_3).f1) ((rd_T72 l1 x7_3).f2) ((rd_T72 l1 x7_3).f3) ((rd_T72 l1 x7_3).f4)) else (spec_ShiftsOK.j4 k3 l1 x7_3 true ((rd_T72 l1 x7_3).f0) ((rd_T72 l1 x7_3).f1) ((rd_T72 l1 x7_3).f2) ((rd_T72 l1 x7_3).f3) ((rd_T72 l1 x7_3).f4))) = some r := H
        have A38 := za A380
        clear A380
        by_cases c39 : t321 = true
        ·subst c39
         have H1 : (spec_ShiftsOK.j4 k3 l1 x7_3 (decide ((((rd_T72 l1 x7_3).f4).length : Int) > 6)) ((rd_T72 l1 x7_3).f0) ((rd_T72 l1 x7_3).f1) ((rd_T72 l1 x7_3).f2) ((rd_T72 l1 x7_3).f3) ((rd_T72 l1 x7_3).f4)) = some r := by rw [if_pos rfl] at H; exact H
         clear H
         have H := H1
         clear H1
         have H' := za H
         clear H
         obtain ⟨hcz40_0, hcz40_1, hcz40_2, hcz40_3, hcz40_4, hfz40_0, hfz40_1, hfz40_2, hfz40_3, hfz40_4⟩ := zB5 BK317.out
         go_wp2_with (first | (go_at_call 134; (with_reducible refine (spec_NameOK.calls k3 ((rd_T72 l1 x7_3).f0) true _ A32.out).mono ?_); rintro e w' ⟨rfl, ⟨nd, rfl⟩⟩; (try first | exact ⟨rfl, _, World.drewN_drewN _ _ _⟩ | exact ⟨rfl, _, Eq.trans (World.drewN_drewN _ _ _) (congrArg (World.drewN _) (Nat.add_assoc _ _ _))⟩)) | (go_at_call 122; (with_reducible refine (spec_l01In.calls ((rd_T72 l1 x7_3).f1) 0 10080 true _ A34.out).mono ?_); rintro e w' ⟨rfl, ⟨nd, rfl⟩⟩; (try first | exact ⟨rfl, _, World.drewN_drewN _ _ _⟩ | exact ⟨rfl, _, Eq.trans (World.drewN_drewN _ _ _) (congrArg (World.drewN _) (Nat.add_assoc _ _ _))⟩)) | (go_at_call 122; (with_reducible refine (spec_l01In.calls ((rd_T72 l1 x7_3).f2) 0 10080 true _ A36.out).mono ?_); rintro e w' ⟨rfl, ⟨nd, rfl⟩⟩; (try first | exact ⟨rfl, _, World.drewN_drewN _ _ _⟩ | exact ⟨rfl, _, Eq.trans (World.drewN_drewN _ _ _) (congrArg (World.drewN _) (Nat.add_assoc _ _ _))⟩)) | (go_at_call 122; (with_reducible refine (spec_l01In.calls ((rd_T72 l1 x7_3).f3) 0 1000 true _ A38.out).mono ?_); rintro e w' ⟨rfl, ⟨nd, rfl⟩⟩; (try first | exact ⟨rfl, _, World.drewN_drewN _ _ _⟩ | exact ⟨rfl, _, Eq.trans (World.drewN_drewN _ _ _) (congrArg (World.drewN _) (Nat.add_assoc _ _ _))⟩)))
         repeat (go_quiet (first | (go_at_call 134; (with_reducible refine (spec_NameOK.calls k3 ((rd_T72 l1 x7_3).f0) true _ A32.out).mono ?_); rintro e w' ⟨rfl, ⟨nd, rfl⟩⟩; (try first | exact ⟨rfl, _, World.drewN_drewN _ _ _⟩ | exact ⟨rfl, _, Eq.trans (World.drewN_drewN _ _ _) (congrArg (World.drewN _) (Nat.add_assoc _ _ _))⟩)) | (go_at_call 122; (with_reducible refine (spec_l01In.calls ((rd_T72 l1 x7_3).f1) 0 10080 true _ A34.out).mono ?_); rintro e w' ⟨rfl, ⟨nd, rfl⟩⟩; (try first | exact ⟨rfl, _, World.drewN_drewN _ _ _⟩ | exact ⟨rfl, _, Eq.trans (World.drewN_drewN _ _ _) (congrArg (World.drewN _) (Nat.add_assoc _ _ _))⟩)) | (go_at_call 122; (with_reducible refine (spec_l01In.calls ((rd_T72 l1 x7_3).f2) 0 10080 true _ A36.out).mono ?_); rintro e w' ⟨rfl, ⟨nd, rfl⟩⟩; (try first | exact ⟨rfl, _, World.drewN_drewN _ _ _⟩ | exact ⟨rfl, _, Eq.trans (World.drewN_drewN _ _ _) (congrArg (World.drewN _) (Nat.add_assoc _ _ _))⟩)) | (go_at_call 122; (with_reducible refine (spec_l01In.calls ((rd_T72 l1 x7_3).f3) 0 1000 true _ A38.out).mono ?_); rintro e w' ⟨rfl, ⟨nd, rfl⟩⟩; (try first | exact ⟨rfl, _, World.drewN_drewN _ _ _⟩ | exact ⟨rfl, _, Eq.trans (World.drewN_drewN _ _ _) (congrArg (World.drewN _) (Nat.add_assoc _ _ _))⟩))); try go_wp2_with (first | (go_at_call 134; (with_reducible refine (spec_NameOK.calls k3 ((rd_T72 l1 x7_3).f0) true _ A32.out).mono ?_); rintro e w' ⟨rfl, ⟨nd, rfl⟩⟩; (try first | exact ⟨rfl, _, World.drewN_drewN _ _ _⟩ | exact ⟨rfl, _, Eq.trans (World.drewN_drewN _ _ _) (congrArg (World.drewN _) (Nat.add_assoc _ _ _))⟩)) | (go_at_call 122; (with_reducible refine (spec_l01In.calls ((rd_T72 l1 x7_3).f1) 0 10080 true _ A34.out).mono ?_); rintro e w' ⟨rfl, ⟨nd, rfl⟩⟩; (try first | exact ⟨rfl, _, World.drewN_drewN _ _ _⟩ | exact ⟨rfl, _, Eq.trans (World.drewN_drewN _ _ _) (congrArg (World.drewN _) (Nat.add_assoc _ _ _))⟩)) | (go_at_call 122; (with_reducible refine (spec_l01In.calls ((rd_T72 l1 x7_3).f2) 0 10080 true _ A36.out).mono ?_); rintro e w' ⟨rfl, ⟨nd, rfl⟩⟩; (try first | exact ⟨rfl, _, World.drewN_drewN _ _ _⟩ | exact ⟨rfl, _, Eq.trans (World.drewN_drewN _ _ _) (congrArg (World.drewN _) (Nat.add_assoc _ _ _))⟩)) | (go_at_call 122; (with_reducible refine (spec_l01In.calls ((rd_T72 l1 x7_3).f3) 0 1000 true _ A38.out).mono ?_); rintro e w' ⟨rfl, ⟨nd, rfl⟩⟩; (try first | exact ⟨rfl, _, World.drewN_drewN _ _ _⟩ | exact ⟨rfl, _, Eq.trans (World.drewN_drewN _ _ _) (congrArg (World.drewN _) (Nat.add_assoc _ _ _))⟩))))
         go_meet
         case rel => exact ⟨_, (decide ((((rd_T72 l1 x7_3).f4).length : Int) > 6)), zG129, H', ⟨zH114⟩, ⟨zH0⟩, ⟨zH86⟩⟩
        replace c39 := Bool.eq_false_iff.mpr c39
        subst c39
        have H1 : (spec_ShiftsOK.j4 k3 l1 x7_3 true ((rd_T72 l1 x7_3).f0) ((rd_T72 l1 x7_3).f1) ((rd_T72 l1 x7_3).f2) ((rd_T72 l1 x7_3).f3) ((rd_T72 l1 x7_3).f4)) = some r := by rw [if_neg (show ¬ (false = true) by decide)] at H; exact H
        clear H
        have H := H1
        clear H1
        have H' := za H
        clear H
        obtain ⟨hcz41_0, hcz41_1, hcz41_2, hcz41_3, hcz41_4, hfz41_0, hfz41_1, hfz41_2, hfz41_3, hfz41_4⟩ := zB5 BK317.out
        go_wp2_with (first | (go_at_call 134; (with_reducible refine (spec_NameOK.calls k3 ((rd_T72 l1 x7_3).f0) true _ A32.out).mono ?_); rintro e w' ⟨rfl, ⟨nd, rfl⟩⟩; (try first | exact ⟨rfl, _, World.drewN_drewN _ _ _⟩ | exact ⟨rfl, _, Eq.trans (World.drewN_drewN _ _ _) (congrArg (World.drewN _) (Nat.add_assoc _ _ _))⟩)) | (go_at_call 122; (with_reducible refine (spec_l01In.calls ((rd_T72 l1 x7_3).f1) 0 10080 true _ A34.out).mono ?_); rintro e w' ⟨rfl, ⟨nd, rfl⟩⟩; (try first | exact ⟨rfl, _, World.drewN_drewN _ _ _⟩ | exact ⟨rfl, _, Eq.trans (World.drewN_drewN _ _ _) (congrArg (World.drewN _) (Nat.add_assoc _ _ _))⟩)) | (go_at_call 122; (with_reducible refine (spec_l01In.calls ((rd_T72 l1 x7_3).f2) 0 10080 true _ A36.out).mono ?_); rintro e w' ⟨rfl, ⟨nd, rfl⟩⟩; (try first | exact ⟨rfl, _, World.drewN_drewN _ _ _⟩ | exact ⟨rfl, _, Eq.trans (World.drewN_drewN _ _ _) (congrArg (World.drewN _) (Nat.add_assoc _ _ _))⟩)) | (go_at_call 122; (with_reducible refine (spec_l01In.calls ((rd_T72 l1 x7_3).f3) 0 1000 false _ A38.out).mono ?_); rintro e w' ⟨rfl, ⟨nd, rfl⟩⟩; (try first | exact ⟨rfl, _, World.drewN_drewN _ _ _⟩ | exact ⟨rfl, _, Eq.trans (World.drewN_drewN _ _ _) (congrArg (World.drewN _) (Nat.add_assoc _ _ _))⟩)))
        repeat (go_quiet (first | (go_at_call 134; (with_reducible refine (spec_NameOK.calls k3 ((rd_T72 l1 x7_3).f0) true _ A32.out).mono ?_); rintro e w' ⟨rfl, ⟨nd, rfl⟩⟩; (try first | exact ⟨rfl, _, World.drewN_drewN _ _ _⟩ | exact ⟨rfl, _, Eq.trans (World.drewN_drewN _ _ _) (congrArg (World.drewN _) (Nat.add_assoc _ _ _))⟩)) | (go_at_call 122; (with_reducible refine (spec_l01In.calls ((rd_T72 l1 x7_3).f1) 0 10080 true _ A34.out).mono ?_); rintro e w' ⟨rfl, ⟨nd, rfl⟩⟩; (try first | exact ⟨rfl, _, World.drewN_drewN _ _ _⟩ | exact ⟨rfl, _, Eq.trans (World.drewN_drewN _ _ _) (congrArg (World.drewN _) (Nat.add_assoc _ _ _))⟩)) | (go_at_call 122; (with_reducible refine (spec_l01In.calls ((rd_T72 l1 x7_3).f2) 0 10080 true _ A36.out).mono ?_); rintro e w' ⟨rfl, ⟨nd, rfl⟩⟩; (try first | exact ⟨rfl, _, World.drewN_drewN _ _ _⟩ | exact ⟨rfl, _, Eq.trans (World.drewN_drewN _ _ _) (congrArg (World.drewN _) (Nat.add_assoc _ _ _))⟩)) | (go_at_call 122; (with_reducible refine (spec_l01In.calls ((rd_T72 l1 x7_3).f3) 0 1000 false _ A38.out).mono ?_); rintro e w' ⟨rfl, ⟨nd, rfl⟩⟩; (try first | exact ⟨rfl, _, World.drewN_drewN _ _ _⟩ | exact ⟨rfl, _, Eq.trans (World.drewN_drewN _ _ _) (congrArg (World.drewN _) (Nat.add_assoc _ _ _))⟩))); try go_wp2_with (first | (go_at_call 134; (with_reducible refine (spec_NameOK.calls k3 ((rd_T72 l1 x7_3).f0) true _ A32.out).mono ?_); rintro e w' ⟨rfl, ⟨nd, rfl⟩⟩; (try first | exact ⟨rfl, _, World.drewN_drewN _ _ _⟩ | exact ⟨rfl, _, Eq.trans (World.drewN_drewN _ _ _) (congrArg (World.drewN _) (Nat.add_assoc _ _ _))⟩)) | (go_at_call 122; (with_reducible refine (spec_l01In.calls ((rd_T72 l1 x7_3).f1) 0 10080 true _ A34.out).mono ?_); rintro e w' ⟨rfl, ⟨nd, rfl⟩⟩; (try first | exact ⟨rfl, _, World.drewN_drewN _ _ _⟩ | exact ⟨rfl, _, Eq.trans (World.drewN_drewN _ _ _) (congrArg (World.drewN _) (Nat.add_assoc _ _ _))⟩)) | (go_at_call 122; (with_reducible refine (spec_l01In.calls ((rd_T72 l1 x7_3).f2) 0 10080 true _ A36.out).mono ?_); rintro e w' ⟨rfl, ⟨nd, rfl⟩⟩; (try first | exact ⟨rfl, _, World.drewN_drewN _ _ _⟩ | exact ⟨rfl, _, Eq.trans (World.drewN_drewN _ _ _) (congrArg (World.drewN _) (Nat.add_assoc _ _ _))⟩)) | (go_at_call 122; (with_reducible refine (spec_l01In.calls ((rd_T72 l1 x7_3).f3) 0 1000 false _ A38.out).mono ?_); rintro e w' ⟨rfl, ⟨nd, rfl⟩⟩; (try first | exact ⟨rfl, _, World.drewN_drewN _ _ _⟩ | exact ⟨rfl, _, Eq.trans (World.drewN_drewN _ _ _) (congrArg (World.drewN _) (Nat.add_assoc _ _ _))⟩))))
        go_meet
        case rel => exact ⟨_, (true), zG129, H', ⟨zH114⟩, ⟨zH0⟩, ⟨zH86⟩⟩
       case rest =>
        clear HC29
        try clear c1
        try clear c4
        try clear c4b0
        try clear c4b1
        try clear c5
        try clear c6
        try clear c6b0
        try clear c7
        try clear c7b0
        try clear c11
        try clear c11b0
        try clear c13
        try clear c13b0
        try clear c15
        try clear c15b0
        try clear c19
        try clear c20
        try clear c20b0
        try clear c22
        try clear c22b0
        try clear c23
        try clear c23b0
        try clear c24
        try clear c24b0
        try clear c27
        try clear c27b0
        try clear c28
        try clear c28b0
        try clear c33
        try clear c35
        try clear c37
        try clear c39
        try clear hcz10_0
        try clear hcz10_1
        try clear hcz10_2
        try clear hcz12_0
        try clear hcz12_1
        try clear hcz12_2
        try clear hcz14_0
        try clear hcz14_1
        try clear hcz14_2
        try clear hcz16_0
        try clear hcz16_1
        try clear hcz16_2
        try clear hcz18_0
        try clear hcz18_1
        try clear hcz18_2
        try clear hcz25_0
        try clear hcz25_1
        try clear hcz25_2
        try clear hcz26_0
        try clear hcz26_1
        try clear hcz26_2
        try clear hcz31_0
        try clear hcz31_1
        try clear hcz31_2
        try clear hcz31_3
        try clear hcz31_4
        try clear hcz40_0
        try clear hcz40_1
        try clear hcz40_2
        try clear hcz40_3
        try clear hcz40_4
        try clear hcz41_0
        try clear hcz41_1
        try clear hcz41_2
        try clear hcz41_3
        try clear hcz41_4
        try clear hcz42_0
        try clear hcz42_1
        try clear hcz42_2
        try clear hcz42_3
        try clear hcz42_4
        try clear hcz43_0
        try clear hcz43_1
        try clear hcz43_2
        try clear hcz43_3
        try clear hcz43_4
        try clear hcz44_0
        try clear hcz44_1
        try clear hcz44_2
        try clear hcz44_3
        try clear hcz44_4
        try clear hfz10_0
        try clear hfz10_1
        try clear hfz10_2
        try clear hfz12_0
        try clear hfz12_1
        try clear hfz12_2
        try clear hfz14_0
        try clear hfz14_1
        try clear hfz14_2
        try clear hfz16_0
        try clear hfz16_1
        try clear hfz16_2
        try clear hfz18_0
        try clear hfz18_1
        try clear hfz18_2
        try clear hfz25_0
        try clear hfz25_1
        try clear hfz25_2
        try clear hfz26_0
        try clear hfz26_1
        try clear hfz26_2
        try clear hfz31_0
        try clear hfz31_1
        try clear hfz31_2
        try clear hfz31_3
        try clear hfz31_4
        try clear hfz40_0
        try clear hfz40_1
        try clear hfz40_2
        try clear hfz40_3
        try clear hfz40_4
        try clear hfz41_0
        try clear hfz41_1
        try clear hfz41_2
        try clear hfz41_3
        try clear hfz41_4
        try clear hfz42_0
        try clear hfz42_1
        try clear hfz42_2
        try clear hfz42_3
        try clear hfz42_4
        try clear hfz43_0
        try clear hfz43_1
        try clear hfz43_2
        try clear hfz43_3
        try clear hfz43_4
        try clear hfz44_0
        try clear hfz44_1
        try clear hfz44_2
        try clear hfz44_3
        try clear hfz44_4
        try clear hx312_0
        try clear hx312_1
        try clear hx312_2
        try clear hx315_0
        try clear hx315_1
        try clear hx315_2
        try clear hx316_0
        try clear hx316_1
        try clear hx316_2
        try clear hx316_3
        try clear hx316_4
        try clear p312
        try clear p315
        try clear p316
        try clear q312
        try clear q315
        try clear q316
        obtain ⟨kq, x100_28, rfl, HA, HJ28, BK317, HB⟩ := hcut
        cases kq with
        | zero => exact absurd HA.out (by simp [spec_ShiftsOK.j4])
        | succ kj28 =>
         have H := HA.out
         clear HA
         simp only [spec_ShiftsOK.j4] at H
         by_cases c45 : x100_28 = true
         ·subst c45
          have H1 : (some false) = some r := by rw [if_pos rfl] at H; exact H
          clear H
          have H := H1
          clear H1
          obtain rfl := Option.some.inj H
          go_wp2
          repeat (go_quiet (fail); try go_wp2)
          go_ret
          exact zH28
         replace c45 := Bool.eq_false_iff.mpr c45
         subst c45
         have H1 : (spec_ShiftsOK.l2 kj28 l1 x7_3 0 ((rd_T72 l1 x7_3).f0) ((rd_T72 l1 x7_3).f1) ((rd_T72 l1 x7_3).f2) ((rd_T72 l1 x7_3).f3) ((rd_T72 l1 x7_3).f4)) = some r := by rw [if_neg (show ¬ (false = true) by decide)] at H; exact H
         clear H
         have H := H1
         clear H1
         have H' := za H
         clear H
         go_wp2
         repeat (go_quiet (fail); try go_wp2)
         go_loopg [9] kj28 (fun kq v9 w' => ∃ (x9_5 : Int), v9 = .int .i64 x9_5 ∧ Aside0 (spec_ShiftsOK.l2 kq l1 x7_3 x9_5 ((rd_T72 l1 x7_3).f0) ((rd_T72 l1 x7_3).f1) ((rd_T72 l1 x7_3).f2) ((rd_T72 l1 x7_3).f3) ((rd_T72 l1 x7_3).f4) = some r) ∧ Aside0 (kq ≤ kj28) ∧ Aside0 (w'.heap[gb317]? = some (.cells #[.string ((rd_T72 l1 x7_3).f0), .int .i64 ((rd_T72 l1 x7_3).f1), .int .i64 ((rd_T72 l1 x7_3).f2), .int .i64 ((rd_T72 l1 x7_3).f3), (.slice A316_4 ((rd_T72 l1 x7_3).f4).length c316_4)] 72 (0, 0))) ∧ Aside0 (Below w.heap.size w w'))
         case atStart => exact ⟨(0), zG129, H', ⟨Nat.le_refl _⟩, ⟨zH105⟩, ⟨zH86⟩⟩
         case round =>
          clear H'
          try clear c1
          try clear c4
          try clear c4b0
          try clear c4b1
          try clear c5
          try clear c6
          try clear c6b0
          try clear c7
          try clear c7b0
          try clear c11
          try clear c11b0
          try clear c13
          try clear c13b0
          try clear c15
          try clear c15b0
          try clear c19
          try clear c20
          try clear c20b0
          try clear c22
          try clear c22b0
          try clear c23
          try clear c23b0
          try clear c24
          try clear c24b0
          try clear c27
          try clear c27b0
          try clear c28
          try clear c28b0
          try clear c33
          try clear c35
          try clear c37
          try clear c39
          try clear c45
          try clear hcz10_0
          try clear hcz10_1
          try clear hcz10_2
          try clear hcz12_0
          try clear hcz12_1
          try clear hcz12_2
          try clear hcz14_0
          try clear hcz14_1
          try clear hcz14_2
          try clear hcz16_0
          try clear hcz16_1
          try clear hcz16_2
          try clear hcz18_0
          try clear hcz18_1
          try clear hcz18_2
          try clear hcz25_0
          try clear hcz25_1
          try clear hcz25_2
          try clear hcz26_0
          try clear hcz26_1
          try clear hcz26_2
          try clear hcz31_0
          try clear hcz31_1
          try clear hcz31_2
          try clear hcz31_3
          try clear hcz31_4
          try clear hcz40_0
          try clear hcz40_1
          try clear hcz40_2
          try clear hcz40_3
          try clear hcz40_4
          try clear hcz41_0
          try clear hcz41_1
          try clear hcz41_2
          try clear hcz41_3
          try clear hcz41_4
          try clear hcz42_0
          try clear hcz42_1
          try clear hcz42_2
          try clear hcz42_3
          try clear hcz42_4
          try clear hcz43_0
          try clear hcz43_1
          try clear hcz43_2
          try clear hcz43_3
          try clear hcz43_4
          try clear hcz44_0
          try clear hcz44_1
          try clear hcz44_2
          try clear hcz44_3
          try clear hcz44_4
          try clear hfz10_0
          try clear hfz10_1
          try clear hfz10_2
          try clear hfz12_0
          try clear hfz12_1
          try clear hfz12_2
          try clear hfz14_0
          try clear hfz14_1
          try clear hfz14_2
          try clear hfz16_0
          try clear hfz16_1
          try clear hfz16_2
          try clear hfz18_0
          try clear hfz18_1
          try clear hfz18_2
          try clear hfz25_0
          try clear hfz25_1
          try clear hfz25_2
          try clear hfz26_0
          try clear hfz26_1
          try clear hfz26_2
          try clear hfz31_0
          try clear hfz31_1
          try clear hfz31_2
          try clear hfz31_3
          try clear hfz31_4
          try clear hfz40_0
          try clear hfz40_1
          try clear hfz40_2
          try clear hfz40_3
          try clear hfz40_4
          try clear hfz41_0
          try clear hfz41_1
          try clear hfz41_2
          try clear hfz41_3
          try clear hfz41_4
          try clear hfz42_0
          try clear hfz42_1
          try clear hfz42_2
          try clear hfz42_3
          try clear hfz42_4
          try clear hfz43_0
          try clear hfz43_1
          try clear hfz43_2
          try clear hfz43_3
          try clear hfz43_4
          try clear hfz44_0
          try clear hfz44_1
          try clear hfz44_2
          try clear hfz44_3
          try clear hfz44_4
          try clear hx312_0
          try clear hx312_1
          try clear hx312_2
          try clear hx315_0
          try clear hx315_1
          try clear hx315_2
          try clear hx316_0
          try clear hx316_1
          try clear hx316_2
          try clear hx316_3
          try clear hx316_4
          try clear p312
          try clear p315
          try clear p316
          try clear q312
          try clear q315
          try clear q316
          obtain ⟨x9_5, rfl, HA, HK5, BK317, HB⟩ := hrel
          cases gk with
          | zero => exact absurd HA.out (by simp [spec_ShiftsOK.l2])
          | succ k5 =>
           have H := HA.out
           clear HA
           simp only [spec_ShiftsOK.l2] at H
           by_cases c46 : x9_5 < (((rd_T72 l1 x7_3).f4).length : Int)
           ·rw [if_pos c46] at H
            have c46b0 := decide_eq_true c46
            clear c46
            by_cases c47 : 0 ≤ x9_5
            rotate_left
            ·rw [if_neg c47] at H
             exact absurd H (by simp)
            rw [if_pos c47] at H
            have c47b0 := decide_eq_true c47
            clear c47
            replace H := Option.bind_eq_some_iff.mp H
            obtain ⟨t323, A480, H⟩ := H
            replace H : (if t323 = true then (spec_ShiftsOK.l2 k5 l1 x7_3 (wrap64 (x9_5 + 1)) ((rd_T72 l1 x7_3).f0) ((rd_T72 l1 x7_3).f1) ((rd_T72 l1 x7_3).f2) ((rd_T72 l1 x7_3).f3) ((rd_T72 l1 x7_3).f4)) else (some false)) = some r := H
            have A48 := za A480
            clear A480
            by_cases c49 : t323 = true
            rotate_left
            ·replace c49 := Bool.eq_false_iff.mpr c49
             subst c49
             have H1 : (some false) = some r := by rw [if_neg (show ¬ (false = true) by decide)] at H; exact H
             clear H
             have H := H1
             clear H1
             obtain rfl := Option.some.inj H
             obtain ⟨hcz51_0, hcz51_1, hcz51_2, hcz51_3, hcz51_4, hfz51_0, hfz51_1, hfz51_2, hfz51_3, hfz51_4⟩ := zB5 BK317.out
             have p322 : 0 ≤ (x9_5 : Int) := zO
             have q322 : x9_5 < (((rd_T72 l1 x7_3).f4).length : Int) := zO
             obtain ⟨ad322, e322, hx322_0⟩ := zbg HR316_4.out x9_5 p322 q322
             cases e322
             replace hx322_0 := (HB.out.cell (zb w _ hx322_0)).trans hx322_0
             replace p322 := eq_true p322
             replace q322 := eq_true q322
             go_wp2_with (first | (go_at_call 134; (with_reducible refine (spec_NameOK.calls k5 (rdOf ByteArray.empty ((rd_T72 l1 x7_3).f4) x9_5) false _ A48.out).mono ?_); rintro e w' ⟨rfl, ⟨nd, rfl⟩⟩; (try first | exact ⟨rfl, _, World.drewN_drewN _ _ _⟩ | exact ⟨rfl, _, Eq.trans (World.drewN_drewN _ _ _) (congrArg (World.drewN _) (Nat.add_assoc _ _ _))⟩)))
             repeat (go_quiet (first | (go_at_call 134; (with_reducible refine (spec_NameOK.calls k5 (rdOf ByteArray.empty ((rd_T72 l1 x7_3).f4) x9_5) false _ A48.out).mono ?_); rintro e w' ⟨rfl, ⟨nd, rfl⟩⟩; (try first | exact ⟨rfl, _, World.drewN_drewN _ _ _⟩ | exact ⟨rfl, _, Eq.trans (World.drewN_drewN _ _ _) (congrArg (World.drewN _) (Nat.add_assoc _ _ _))⟩))); try go_wp2_with (first | (go_at_call 134; (with_reducible refine (spec_NameOK.calls k5 (rdOf ByteArray.empty ((rd_T72 l1 x7_3).f4) x9_5) false _ A48.out).mono ?_); rintro e w' ⟨rfl, ⟨nd, rfl⟩⟩; (try first | exact ⟨rfl, _, World.drewN_drewN _ _ _⟩ | exact ⟨rfl, _, Eq.trans (World.drewN_drewN _ _ _) (congrArg (World.drewN _) (Nat.add_assoc _ _ _))⟩))))
             go_ret
             exact zH28
            subst c49
            have H1 : (spec_ShiftsOK.l2 k5 l1 x7_3 (wrap64 (x9_5 + 1)) ((rd_T72 l1 x7_3).f0) ((rd_T72 l1 x7_3).f1) ((rd_T72 l1 x7_3).f2) ((rd_T72 l1 x7_3).f3) ((rd_T72 l1 x7_3).f4)) = some r := by rw [if_pos rfl] at H; exact H
            clear H
            have H := H1
            clear H1
            have H' := za H
            clear H
            obtain ⟨hcz50_0, hcz50_1, hcz50_2, hcz50_3, hcz50_4, hfz50_0, hfz50_1, hfz50_2, hfz50_3, hfz50_4⟩ := zB5 BK317.out
            have p322 : 0 ≤ (x9_5 : Int) := zO
            have q322 : x9_5 < (((rd_T72 l1 x7_3).f4).length : Int) := zO
            obtain ⟨ad322, e322, hx322_0⟩ := zbg HR316_4.out x9_5 p322 q322
            cases e322
            replace hx322_0 := (HB.out.cell (zb w _ hx322_0)).trans hx322_0
            replace p322 := eq_true p322
            replace q322 := eq_true q322
            go_wp2_with (first | (go_at_call 134; (with_reducible refine (spec_NameOK.calls k5 (rdOf ByteArray.empty ((rd_T72 l1 x7_3).f4) x9_5) true _ A48.out).mono ?_); rintro e w' ⟨rfl, ⟨nd, rfl⟩⟩; (try first | exact ⟨rfl, _, World.drewN_drewN _ _ _⟩ | exact ⟨rfl, _, Eq.trans (World.drewN_drewN _ _ _) (congrArg (World.drewN _) (Nat.add_assoc _ _ _))⟩)))
            repeat (go_quiet (first | (go_at_call 134; (with_reducible refine (spec_NameOK.calls k5 (rdOf ByteArray.empty ((rd_T72 l1 x7_3).f4) x9_5) true _ A48.out).mono ?_); rintro e w' ⟨rfl, ⟨nd, rfl⟩⟩; (try first | exact ⟨rfl, _, World.drewN_drewN _ _ _⟩ | exact ⟨rfl, _, Eq.trans (World.drewN_drewN _ _ _) (congrArg (World.drewN _) (Nat.add_assoc _ _ _))⟩))); try go_wp2_with (first | (go_at_call 134; (with_reducible refine (spec_NameOK.calls k5 (rdOf ByteArray.empty ((rd_T72 l1 x7_3).f4) x9_5) true _ A48.out).mono ?_); rintro e w' ⟨rfl, ⟨nd, rfl⟩⟩; (try first | exact ⟨rfl, _, World.drewN_drewN _ _ _⟩ | exact ⟨rfl, _, Eq.trans (World.drewN_drewN _ _ _) (congrArg (World.drewN _) (Nat.add_assoc _ _ _))⟩))))
            go_roundg k5
            case measure => have := HJ2.out; have := HK2.out; have := HK3.out; have := HJ28.out; have := HK5.out; omega
            case rel => exact ⟨(wrap64 (x9_5 + 1)), zG129, H', ⟨by have := HJ2.out; have := HK2.out; have := HK3.out; have := HJ28.out; have := HK5.out; omega⟩, ⟨zH105⟩, ⟨zH86⟩⟩
           rw [if_neg c46] at H
           have c46b0 := decide_eq_false c46
           clear c46
           have H' := za H
           clear H
           obtain ⟨hcz52_0, hcz52_1, hcz52_2, hcz52_3, hcz52_4, hfz52_0, hfz52_1, hfz52_2, hfz52_3, hfz52_4⟩ := zB5 BK317.out
           go_wp2
           repeat (go_quiet (fail); try go_wp2)
           go_loopg [10] k5 (fun kq v10 w' => ∃ (x10_6 : Int), v10 = .int .i64 x10_6 ∧ Aside0 (spec_ShiftsOK.l3 kq l1 x7_3 x10_6 ((rd_T72 l1 x7_3).f0) ((rd_T72 l1 x7_3).f1) ((rd_T72 l1 x7_3).f2) ((rd_T72 l1 x7_3).f3) ((rd_T72 l1 x7_3).f4) = some r) ∧ Aside0 (kq ≤ k5) ∧ Aside0 (w'.heap[gb317]? = some (.cells #[.string ((rd_T72 l1 x7_3).f0), .int .i64 ((rd_T72 l1 x7_3).f1), .int .i64 ((rd_T72 l1 x7_3).f2), .int .i64 ((rd_T72 l1 x7_3).f3), (.slice A316_4 ((rd_T72 l1 x7_3).f4).length c316_4)] 72 (0, 0))) ∧ Aside0 (Below w.heap.size w w'))
           case atStart => exact ⟨(0), zG129, H', ⟨Nat.le_refl _⟩, ⟨zH105⟩, ⟨zH86⟩⟩
           case round =>
            clear H'
            try clear c1
            try clear c4
            try clear c4b0
            try clear c4b1
            try clear c5
            try clear c6
            try clear c6b0
            try clear c7
            try clear c7b0
            try clear c11
            try clear c11b0
            try clear c13
            try clear c13b0
            try clear c15
            try clear c15b0
            try clear c19
            try clear c20
            try clear c20b0
            try clear c22
            try clear c22b0
            try clear c23
            try clear c23b0
            try clear c24
            try clear c24b0
            try clear c27
            try clear c27b0
            try clear c28
            try clear c28b0
            try clear c33
            try clear c35
            try clear c37
            try clear c39
            try clear c45
            try clear c46
            try clear c46b0
            try clear c47
            try clear c47b0
            try clear c49
            try clear hcz10_0
            try clear hcz10_1
            try clear hcz10_2
            try clear hcz12_0
            try clear hcz12_1
            try clear hcz12_2
            try clear hcz14_0
            try clear hcz14_1
            try clear hcz14_2
            try clear hcz16_0
            try clear hcz16_1
            try clear hcz16_2
            try clear hcz18_0
            try clear hcz18_1
            try clear hcz18_2
            try clear hcz25_0
            try clear hcz25_1
            try clear hcz25_2
            try clear hcz26_0
            try clear hcz26_1
            try clear hcz26_2
            try clear hcz31_0
            try clear hcz31_1
            try clear hcz31_2
            try clear hcz31_3
            try clear hcz31_4
            try clear hcz40_0
            try clear hcz40_1
            try clear hcz40_2
            try clear hcz40_3
            try clear hcz40_4
            try clear hcz41_0
            try clear hcz41_1
            try clear hcz41_2
            try clear hcz41_3
            try clear hcz41_4
            try clear hcz42_0
            try clear hcz42_1
            try clear hcz42_2
            try clear hcz42_3
            try clear hcz42_4
            try clear hcz43_0
            try clear hcz43_1
            try clear hcz43_2
            try clear hcz43_3
            try clear hcz43_4
            try clear hcz44_0
            try clear hcz44_1
            try clear hcz44_2
            try clear hcz44_3
            try clear hcz44_4
            try clear hcz50_0
            try clear hcz50_1
            try clear hcz50_2
            try clear hcz50_3
            try clear hcz50_4
            try clear hcz51_0
            try clear hcz51_1
            try clear hcz51_2
            try clear hcz51_3
            try clear hcz51_4
            try clear hcz52_0
            try clear hcz52_1
            try clear hcz52_2
            try clear hcz52_3
            try clear hcz52_4
            try clear hfz10_0
            try clear hfz10_1
            try clear hfz10_2
            try clear hfz12_0
            try clear hfz12_1
            try clear hfz12_2
            try clear hfz14_0
            try clear hfz14_1
            try clear hfz14_2
            try clear hfz16_0
            try clear hfz16_1
            try clear hfz16_2
            try clear hfz18_0
            try clear hfz18_1
            try clear hfz18_2
            try clear hfz25_0
            try clear hfz25_1
            try clear hfz25_2
            try clear hfz26_0
            try clear hfz26_1
            try clear hfz26_2
            try clear hfz31_0
            try clear hfz31_1
            try clear hfz31_2
            try clear hfz31_3
            try clear hfz31_4
            try clear hfz40_0
            try clear hfz40_1
            try clear hfz40_2
            try clear hfz40_3
            try clear hfz40_4
            try clear hfz41_0
            try clear hfz41_1
            try clear hfz41_2
            try clear hfz41_3
            try clear hfz41_4
            try clear hfz42_0
            try clear hfz42_1
            try clear hfz42_2
            try clear hfz42_3
            try clear hfz42_4
            try clear hfz43_0
            try clear hfz43_1
            try clear hfz43_2
            try clear hfz43_3
            try clear hfz43_4
            try clear hfz44_0
            try clear hfz44_1
            try clear hfz44_2
            try clear hfz44_3
            try clear hfz44_4
            try clear hfz50_0
            try clear hfz50_1
            try clear hfz50_2
            try clear hfz50_3
            try clear hfz50_4
            try clear hfz51_0
            try clear hfz51_1
            try clear hfz51_2
            try clear hfz51_3
            try clear hfz51_4
            try clear hfz52_0
            try clear hfz52_1
            try clear hfz52_2
            try clear hfz52_3
            try clear hfz52_4
            try clear hx312_0
            try clear hx312_1
            try clear hx312_2
            try clear hx315_0
            try clear hx315_1
            try clear hx315_2
            try clear hx316_0
            try clear hx316_1
            try clear hx316_2
            try clear hx316_3
            try clear hx316_4
            try clear hx322_0
            try clear p312
            try clear p315
            try clear p316
            try clear p322
            try clear q312
            try clear q315
            try clear q316
            try clear q322
            obtain ⟨x10_6, rfl, HA, HK6, BK317, HB⟩ := hrel
            cases gk with
            | zero => exact absurd HA.out (by simp [spec_ShiftsOK.l3])
            | succ k6 =>
             have H := HA.out
             clear HA
             simp only [spec_ShiftsOK.l3] at H
             by_cases c53 : x10_6 < x7_3
             rotate_left
             ·rw [if_neg c53] at H
              have c53b0 := decide_eq_false c53
              clear c53
              have H' := za H
              clear H
              go_wp2
              repeat (go_quiet (fail); try go_wp2)
              go_roundg k6
              case measure => have := HJ2.out; have := HK2.out; have := HK3.out; have := HJ28.out; have := HK5.out; have := HK6.out; omega
              case rel => exact ⟨(wrap64 (x7_3 + 1)), zG129, H', ⟨zH92⟩, ⟨zH86⟩⟩
             rw [if_pos c53] at H
             have c53b0 := decide_eq_true c53
             clear c53
             by_cases c54 : 0 ≤ x10_6
             rotate_left
             ·rw [if_neg c54] at H
              exact absurd H (by simp)
             rw [if_pos c54] at H
             have c54b0 := decide_eq_true c54
             clear c54
             by_cases c55 : x10_6 < (l1.length : Int)
             rotate_left
             ·rw [if_neg c55] at H
              exact absurd H (by simp)
             rw [if_pos c55] at H
             have c55b0 := decide_eq_true c55
             clear c55
             by_cases c56 : ((rd_T72 l1 x10_6).f0).toList = ((rd_T72 l1 x7_3).f0).toList
             ·rw [if_pos c56] at H
              have c56b0 : (((rd_T72 l1 x10_6).f0).toList == ((rd_T72 l1 x7_3).f0).toList) = true := beq_iff_eq.mpr c56
              have c56b1 : (((rd_T72 l1 x10_6).f0).toList != ((rd_T72 l1 x7_3).f0).toList) = false := bne_eq_false_iff_eq.mpr c56
              clear c56
              obtain rfl := Option.some.inj H
              have p324 : 0 ≤ (x10_6 : Int) := zO
              have q324 : x10_6 < (l1.length : Int) := zO
              obtain ⟨ad324, A324_4, c324_4, e324, hx324_0, hx324_1, hx324_2, hx324_3, hx324_4, hl324_4, hi324_4⟩ := at_T72 HR1.out x10_6 p324 q324
              obtain rfl : ad316 = ad324 := (by injection e324)
              replace hx324_0 := (HB.out.cell (zb w _ hx324_0)).trans hx324_0
              replace hx324_1 := (HB.out.cell (zb w _ hx324_1)).trans hx324_1
              replace hx324_2 := (HB.out.cell (zb w _ hx324_2)).trans hx324_2
              replace hx324_3 := (HB.out.cell (zb w _ hx324_3)).trans hx324_3
              replace hx324_4 := (HB.out.cell (zb w _ hx324_4)).trans hx324_4
              obtain ⟨HR324_4, HC324_4⟩ := zD2 hi324_4 hl324_4
              clear hi324_4 hl324_4
              replace p324 := eq_true p324
              replace q324 := eq_true q324
              obtain ⟨hcz57_0, hcz57_1, hcz57_2, hcz57_3, hcz57_4, hfz57_0, hfz57_1, hfz57_2, hfz57_3, hfz57_4⟩ := zB5 BK317.out
              go_wp2
              repeat (go_quiet (fail); try go_wp2)
              go_ret
              exact zH28
             rw [if_neg c56] at H
             have c56b0 : (((rd_T72 l1 x10_6).f0).toList == ((rd_T72 l1 x7_3).f0).toList) = false := beq_eq_false_iff_ne.mpr c56
             have c56b1 : (((rd_T72 l1 x10_6).f0).toList != ((rd_T72 l1 x7_3).f0).toList) = true := bne_iff_ne.mpr c56
             have H' := za H
             clear H
             have p324 : 0 ≤ (x10_6 : Int) := zO
             have q324 : x10_6 < (l1.length : Int) := zO
             obtain ⟨ad324, A324_4, c324_4, e324, hx324_0, hx324_1, hx324_2, hx324_3, hx324_4, hl324_4, hi324_4⟩ := at_T72 HR1.out x10_6 p324 q324
             obtain rfl : ad316 = ad324 := (by injection e324)
             replace hx324_0 := (HB.out.cell (zb w _ hx324_0)).trans hx324_0
             replace hx324_1 := (HB.out.cell (zb w _ hx324_1)).trans hx324_1
             replace hx324_2 := (HB.out.cell (zb w _ hx324_2)).trans hx324_2
             replace hx324_3 := (HB.out.cell (zb w _ hx324_3)).trans hx324_3
             replace hx324_4 := (HB.out.cell (zb w _ hx324_4)).trans hx324_4
             obtain ⟨HR324_4, HC324_4⟩ := zD2 hi324_4 hl324_4
             clear hi324_4 hl324_4
             replace p324 := eq_true p324
             replace q324 := eq_true q324
             obtain ⟨hcz58_0, hcz58_1, hcz58_2, hcz58_3, hcz58_4, hfz58_0, hfz58_1, hfz58_2, hfz58_3, hfz58_4⟩ := zB5 BK317.out
             go_wp2
             repeat (go_quiet (fail); try go_wp2)
             go_roundg k6
             case measure => have := HJ2.out; have := HK2.out; have := HK3.out; have := HJ28.out; have := HK5.out; have := HK6.out; omega
             case rel => exact ⟨(wrap64 (x10_6 + 1)), zG129, H', ⟨zH92⟩, ⟨zH105⟩, ⟨zH86⟩⟩
end Go.Proofs.Ytojncbpeeboooaa.Y
