-- squeezed
-- made by pp.py (wip/tools) out of the translation; Lean checks it
import Derived.Test.YtjibigpdbpipcaaR0
import Derived.Test.YtjibigpdbpipcaaR2
import Derived.Test.YtjibigpdbpipcaaR3
namespace Go.Proofs.Ytjibigpdbpipcaa.R
open Go.RowKit Go.Proofs.YtjibigpdbpipcaaW.PrintWords Go.Proofs.YtjibigpdbpipcaaW.PrintLast Go.Proofs.YtjibigpdbpipcaaW.PrintMore
attribute [local go_sem] max2_int min2_int max_two min_two max_three min_three max_four min_four   -- for this text's walks alone
set_option linter.unusedVariables false
set_option linter.unusedSimpArgs false


/-! ### spec_ShiftsOK: function 53 -/
mutual
def spec_ShiftsOK.j0 : Nat → List (S98) → List (S100) → Bool → Option (Bool)
 | 0, _, _, _ => none
 | k + 1, x0, x1, x18 => if x18 = true then (some false) else (spec_ShiftsOK.l0 k x0 x1 0)
def spec_ShiftsOK.l0 : Nat → List (S98) → List (S100) → Int → Option (Bool)
 | 0, _, _, _ => none
 | k + 1, x0, x1, x5 => if x5 < (x0.length : Int) then (if 0 ≤ x5 then (if ((rd_T98 x0 x5).f0) < 0 then (spec_ShiftsOK.j2 k x0 x1 x5 true ((rd_T98 x0 x5).f0) ((rd_T98 x0 x5).f1) ((rd_T98 x0 x5).f2)) else (if ((rd_T98 x0 x5).f0) ≥ ((rd_T98 x0 x5).f1) then (spec_ShiftsOK.j2 k x0 x1 x5 true ((rd_T98 x0 x5).f0) ((rd_T98 x0 x5).f1) ((rd_T98 x0 x5).f2)) else (if ((rd_T98 x0 x5).f1) > 10080 then (spec_ShiftsOK.j2 k x0 x1 x5 true ((rd_T98 x0 x5).f0) ((rd_T98 x0 x5).f1) ((rd_T98 x0 x5).f2)) else ((spec_NameOK.f k ((rd_T98 x0 x5).f2)).bind fun t121 => (spec_ShiftsOK.j2 k x0 x1 x5 (!t121) ((rd_T98 x0 x5).f0) ((rd_T98 x0 x5).f1) ((rd_T98 x0 x5).f2)))))) else (none)) else (spec_ShiftsOK.l1 k x1 0)
def spec_ShiftsOK.j2 : Nat → List (S98) → List (S100) → Int → Bool → Int → Int → ByteArray → Option (Bool)
 | 0, _, _, _, _, _, _, _ => none
 | k + 1, x0, x1, x5, x49, x121000, x121001, x121002 => if x49 = true then (some false) else (if x5 > 0 then (if 0 ≤ (wrap64 (x5 - 1)) then (if (wrap64 (x5 - 1)) < (x0.length : Int) then (if x121000 < ((rd_T98 x0 (wrap64 (x5 - 1))).f0) then (some false) else (spec_ShiftsOK.l0 k x0 x1 (wrap64 (x5 + 1)))) else (none)) else (none)) else (spec_ShiftsOK.l0 k x0 x1 (wrap64 (x5 + 1))))
def spec_ShiftsOK.l1 : Nat → List (S100) → Int → Option (Bool)
 | 0, _, _ => none
 | k + 1, x1, x7 => if x7 < (x1.length : Int) then (if 0 ≤ x7 then ((spec_NameOK.f k ((rd_T100 x1 x7).f0)).bind fun t125 => (if t125 = true then ((spec_l01In.f ((rd_T100 x1 x7).f1) 0 10080).bind fun t126 => (if t126 = true then ((spec_l01In.f ((rd_T100 x1 x7).f2) 0 10080).bind fun t127 => (if t127 = true then ((spec_l01In.f ((rd_T100 x1 x7).f3) 0 1000).bind fun t128 => (if t128 = true then (spec_ShiftsOK.j4 k x1 x7 (decide ((((rd_T100 x1 x7).f4).length : Int) > 6)) ((rd_T100 x1 x7).f0) ((rd_T100 x1 x7).f1) ((rd_T100 x1 x7).f2) ((rd_T100 x1 x7).f3) ((rd_T100 x1 x7).f4)) else (spec_ShiftsOK.j4 k x1 x7 true ((rd_T100 x1 x7).f0) ((rd_T100 x1 x7).f1) ((rd_T100 x1 x7).f2) ((rd_T100 x1 x7).f3) ((rd_T100 x1 x7).f4)))) else (spec_ShiftsOK.j4 k x1 x7 true ((rd_T100 x1 x7).f0) ((rd_T100 x1 x7).f1) ((rd_T100 x1 x7).f2) ((rd_T100 x1 x7).f3) ((rd_T100 x1 x7).f4)))) else (spec_ShiftsOK.j4 k x1 x7 true ((rd_T100 x1 x7).f0) ((rd_T100 x1 x7).f1) ((rd_T100 x1 x7).f2) ((rd_T100 x1 x7).f3) ((rd_T100 x1 x7).f4)))) else (spec_ShiftsOK.j4 k x1 x7 true ((rd_T100 x1 x7).f0) ((rd_T100 x1 x7).f1) ((rd_T100 x1 x7).f2) ((rd_T100 x1 x7).f3) ((rd_T100 x1 x7).f4)))) else (none)) else (some true)
def spec_ShiftsOK.j4 : Nat → List (S100) → Int → Bool → ByteArray → Int → Int → Int → List ByteArray → Option (Bool)
 | 0, _, _, _, _, _, _, _, _ => none
 | k + 1, x1, x7, x100, x125000, x125001, x125002, x125003, x125004 => if x100 = true then (some false) else (spec_ShiftsOK.l2 k x1 x7 0 x125000 x125001 x125002 x125003 x125004)
def spec_ShiftsOK.l2 : Nat → List (S100) → Int → Int → ByteArray → Int → Int → Int → List ByteArray → Option (Bool)
 | 0, _, _, _, _, _, _, _, _ => none
 | k + 1, x1, x7, x9, x125000, x125001, x125002, x125003, x125004 => if x9 < (x125004.length : Int) then (if 0 ≤ x9 then ((spec_NameOK.f k (rdOf ByteArray.empty x125004 x9)).bind fun t130 => (if t130 = true then (spec_ShiftsOK.l2 k x1 x7 (wrap64 (x9 + 1)) x125000 x125001 x125002 x125003 x125004) else (some false))) else (none)) else (spec_ShiftsOK.l3 k x1 x7 0 x125000 x125001 x125002 x125003 x125004)
def spec_ShiftsOK.l3 : Nat → List (S100) → Int → Int → ByteArray → Int → Int → Int → List ByteArray → Option (Bool)
 | 0, _, _, _, _, _, _, _, _ => none
 | k + 1, x1, x7, x10, x125000, x125001, x125002, x125003, x125004 => if x10 < x7 then (if 0 ≤ x10 then (if x10 < (x1.length : Int) then (if ((rd_T100 x1 x10).f0).toList = x125000.toList then (some false) else (spec_ShiftsOK.l3 k x1 x7 (wrap64 (x10 + 1)) x125000 x125001 x125002 x125003 x125004)) else (none)) else (none)) else (spec_ShiftsOK.l1 k x1 (wrap64 (x7 + 1)))
end
def spec_ShiftsOK.f (k : Nat) (l0 : List (S98)) (l1 : List (S100)) : Option (Bool) := if (l0.length : Int) > 8 then (spec_ShiftsOK.j0 k l0 l1 true) else (spec_ShiftsOK.j0 k l0 l1 (decide ((l1.length : Int) > 5)))
theorem spec_ShiftsOK.mono_l : ∀ k, (∀ y0 y1 y2, LeO (spec_ShiftsOK.j0 k y0 y1 y2) (spec_ShiftsOK.j0 (k + 1) y0 y1 y2)) ∧ (∀ y0 y1 y2, LeO (spec_ShiftsOK.l0 k y0 y1 y2) (spec_ShiftsOK.l0 (k + 1) y0 y1 y2)) ∧ (∀ y0 y1 y2 y3 y4 y5 y6, LeO (spec_ShiftsOK.j2 k y0 y1 y2 y3 y4 y5 y6) (spec_ShiftsOK.j2 (k + 1) y0 y1 y2 y3 y4 y5 y6)) ∧ (∀ y0 y1, LeO (spec_ShiftsOK.l1 k y0 y1) (spec_ShiftsOK.l1 (k + 1) y0 y1)) ∧ (∀ y0 y1 y2 y3 y4 y5 y6 y7, LeO (spec_ShiftsOK.j4 k y0 y1 y2 y3 y4 y5 y6 y7) (spec_ShiftsOK.j4 (k + 1) y0 y1 y2 y3 y4 y5 y6 y7)) ∧ (∀ y0 y1 y2 y3 y4 y5 y6 y7, LeO (spec_ShiftsOK.l2 k y0 y1 y2 y3 y4 y5 y6 y7) (spec_ShiftsOK.l2 (k + 1) y0 y1 y2 y3 y4 y5 y6 y7)) ∧ (∀ y0 y1 y2 y3 y4 y5 y6 y7, LeO (spec_ShiftsOK.l3 k y0 y1 y2 y3 y4 y5 y6 y7) (spec_ShiftsOK.l3 (k + 1) y0 y1 y2 y3 y4 y5 y6 y7))
 | 0 => ⟨fun _ _ _ r h => by simp [spec_ShiftsOK.j0] at h, fun _ _ _ r h => by simp [spec_ShiftsOK.l0] at h, fun _ _ _ _ _ _ _ r h => by simp [spec_ShiftsOK.j2] at h, fun _ _ r h => by simp [spec_ShiftsOK.l1] at h, fun _ _ _ _ _ _ _ _ r h => by simp [spec_ShiftsOK.j4] at h, fun _ _ _ _ _ _ _ _ r h => by simp [spec_ShiftsOK.l2] at h, fun _ _ _ _ _ _ _ _ r h => by simp [spec_ShiftsOK.l3] at h⟩
 | k + 1 => by
  obtain ⟨ih0, ih1, ih2, ih3, ih4, ih5, ih6⟩ := spec_ShiftsOK.mono_l k
  refine ⟨?_, ?_, ?_, ?_, ?_, ?_, ?_⟩
  ·intro y0 y1 y2
   unfold spec_ShiftsOK.j0
   repeat' first
   | (with_reducible exact ih0 _ _ _)
   | (with_reducible exact ih1 _ _ _)
   | (with_reducible exact ih2 _ _ _ _ _ _ _)
   | (with_reducible exact ih3 _ _)
   | (with_reducible exact ih4 _ _ _ _ _ _ _ _)
   | (with_reducible exact ih5 _ _ _ _ _ _ _ _)
   | (with_reducible exact ih6 _ _ _ _ _ _ _ _)
   | (with_reducible exact spec_NameOK.mono _ _)
   | (with_reducible exact LeO.refl _)
   | (with_reducible exact LeO.none _)
   | (with_reducible refine LeO.ite ?_ ?_)
   | (with_reducible refine LeO.bind ?_ (fun _ => ?_))
   | exact ih0 _ _ _
   | exact ih1 _ _ _
   | exact ih2 _ _ _ _ _ _ _
   | exact ih3 _ _
   | exact ih4 _ _ _ _ _ _ _ _
   | exact ih5 _ _ _ _ _ _ _ _
   | exact ih6 _ _ _ _ _ _ _ _
   | exact spec_NameOK.mono _ _
   | exact LeO.none _
   | refine LeO.ite ?_ ?_
   | refine LeO.bind ?_ (fun _ => ?_)
  ·intro y0 y1 y2
   unfold spec_ShiftsOK.l0
   repeat' first
   | (with_reducible exact ih0 _ _ _)
   | (with_reducible exact ih1 _ _ _)
   | (with_reducible exact ih2 _ _ _ _ _ _ _)
   | (with_reducible exact ih3 _ _)
   | (with_reducible exact ih4 _ _ _ _ _ _ _ _)
   | (with_reducible exact ih5 _ _ _ _ _ _ _ _)
   | (with_reducible exact ih6 _ _ _ _ _ _ _ _)
   | (with_reducible exact spec_NameOK.mono _ _)
   | (with_reducible exact LeO.refl _)
   | (with_reducible exact LeO.none _)
   | (with_reducible refine LeO.ite ?_ ?_)
   | (with_reducible refine LeO.bind ?_ (fun _ => ?_))
   | exact ih0 _ _ _
   | exact ih1 _ _ _
   | exact ih2 _ _ _ _ _ _ _
   | exact ih3 _ _
   | exact ih4 _ _ _ _ _ _ _ _
   | exact ih5 _ _ _ _ _ _ _ _
   | exact ih6 _ _ _ _ _ _ _ _
   | exact spec_NameOK.mono _ _
   | exact LeO.none _
   | refine LeO.ite ?_ ?_
   | refine LeO.bind ?_ (fun _ => ?_)
  ·intro y0 y1 y2 y3 y4 y5 y6
   unfold spec_ShiftsOK.j2
   repeat' first
   | (with_reducible exact ih0 _ _ _)
   | (with_reducible exact ih1 _ _ _)
   | (with_reducible exact ih2 _ _ _ _ _ _ _)
   | (with_reducible exact ih3 _ _)
   | (with_reducible exact ih4 _ _ _ _ _ _ _ _)
   | (with_reducible exact ih5 _ _ _ _ _ _ _ _)
   | (with_reducible exact ih6 _ _ _ _ _ _ _ _)
   | (with_reducible exact spec_NameOK.mono _ _)
   | (with_reducible exact LeO.refl _)
   | (with_reducible exact LeO.none _)
   | (with_reducible refine LeO.ite ?_ ?_)
   | (with_reducible refine LeO.bind ?_ (fun _ => ?_))
   | exact ih0 _ _ _
   | exact ih1 _ _ _
   | exact ih2 _ _ _ _ _ _ _
   | exact ih3 _ _
   | exact ih4 _ _ _ _ _ _ _ _
   | exact ih5 _ _ _ _ _ _ _ _
   | exact ih6 _ _ _ _ _ _ _ _
   | exact spec_NameOK.mono _ _
   | exact LeO.none _
   | refine LeO.ite ?_ ?_
   | refine LeO.bind ?_ (fun _ => ?_)
  ·intro y0 y1
   unfold spec_ShiftsOK.l1
   repeat' first
   | (with_reducible exact ih0 _ _ _)
   | (with_reducible exact ih1 _ _ _)
   | (with_reducible exact ih2 _ _ _ _ _ _ _)
   | (with_reducible exact ih3 _ _)
   | (with_reducible exact ih4 _ _ _ _ _ _ _ _)
   | (with_reducible exact ih5 _ _ _ _ _ _ _ _)
   | (with_reducible exact ih6 _ _ _ _ _ _ _ _)
   | (with_reducible exact spec_NameOK.mono _ _)
   | (with_reducible exact LeO.refl _)
   | (with_reducible exact LeO.none _)
   | (with_reducible refine LeO.ite ?_ ?_)
   | (with_reducible refine LeO.bind ?_ (fun _ => ?_))
   | exact ih0 _ _ _
   | exact ih1 _ _ _
   | exact ih2 _ _ _ _ _ _ _
   | exact ih3 _ _
   | exact ih4 _ _ _ _ _ _ _ _
   | exact ih5 _ _ _ _ _ _ _ _
   | exact ih6 _ _ _ _ _ _ _ _
   | exact spec_NameOK.mono _ _
   | exact LeO.none _
   | refine LeO.ite ?_ ?_
   | refine LeO.bind ?_ (fun _ => ?_)
  ·intro y0 y1 y2 y3 y4 y5 y6 y7
   unfold spec_ShiftsOK.j4
   repeat' first
   | (with_reducible exact ih0 _ _ _)
   | (with_reducible exact ih1 _ _ _)
   | (with_reducible exact ih2 _ _ _ _ _ _ _)
   | (with_reducible exact ih3 _ _)
   | (with_reducible exact ih4 _ _ _ _ _ _ _ _)
   | (with_reducible exact ih5 _ _ _ _ _ _ _ _)
   | (with_reducible exact ih6 _ _ _ _ _ _ _ _)
   | (with_reducible exact spec_NameOK.mono _ _)
   | (with_reducible exact LeO.refl _)
   | (with_reducible exact LeO.none _)
   | (with_reducible refine LeO.ite ?_ ?_)
   | (with_reducible refine LeO.bind ?_ (fun _ => ?_))
   | exact ih0 _ _ _
   | exact ih1 _ _ _
   | exact ih2 _ _ _ _ _ _ _
   | exact ih3 _ _
   | exact ih4 _ _ _ _ _ _ _ _
   | exact ih5 _ _ _ _ _ _ _ _
   | exact ih6 _ _ _ _ _ _ _ _
   | exact spec_NameOK.mono _ _
   | exact LeO.none _
   | refine LeO.ite ?_ ?_
   | refine LeO.bind ?_ (fun _ => ?_)
  ·intro y0 y1 y2 y3 y4 y5 y6 y7
   unfold spec_ShiftsOK.l2
   repeat' first
   | (with_reducible exact ih0 _ _ _)
   | (with_reducible exact ih1 _ _ _)
   | (with_reducible exact ih2 _ _ _ _ _ _ _)
   | (with_reducible exact ih3 _ _)
   | (with_reducible exact ih4 _ _ _ _ _ _ _ _)
   | (with_reducible exact ih5 _ _ _ _ _ _ _ _)
   | (with_reducible exact ih6 _ _ _ _ _ _ _ _)
   | (with_reducible exact spec_NameOK.mono _ _)
   | (with_reducible exact LeO.refl _)
   | (with_reducible exact LeO.none _)
   | (with_reducible refine LeO.ite ?_ ?_)
   | (with_reducible refine LeO.bind ?_ (fun _ => ?_))
   | exact ih0 _ _ _
   | exact ih1 _ _ _
   | exact ih2 _ _ _ _ _ _ _
   | exact ih3 _ _
   | exact ih4 _ _ _ _ _ _ _ _
   | exact ih5 _ _ _ _ _ _ _ _
   | exact ih6 _ _ _ _ _ _ _ _
   | exact spec_NameOK.mono _ _
   | exact LeO.none _
   | refine LeO.ite ?_ ?_
   | refine LeO.bind ?_ (fun _ => ?_)
  ·intro y0 y1 y2 y3 y4 y5 y6 y7
   unfold spec_ShiftsOK.l3
   repeat' first
   | (with_reducible exact ih0 _ _ _)
   | (with_reducible exact ih1 _ _ _)
   | (with_reducible exact ih2 _ _ _ _ _ _ _)
   | (with_reducible exact ih3 _ _)
   | (with_reducible exact ih4 _ _ _ _ _ _ _ _)
   | (with_reducible exact ih5 _ _ _ _ _ _ _ _)
   | (with_reducible exact ih6 _ _ _ _ _ _ _ _)
   | (with_reducible exact spec_NameOK.mono _ _)
   | (with_reducible exact LeO.refl _)
   | (with_reducible exact LeO.none _)
   | (with_reducible refine LeO.ite ?_ ?_)
   | (with_reducible refine LeO.bind ?_ (fun _ => ?_))
   | exact ih0 _ _ _
   | exact ih1 _ _ _
   | exact ih2 _ _ _ _ _ _ _
   | exact ih3 _ _
   | exact ih4 _ _ _ _ _ _ _ _
   | exact ih5 _ _ _ _ _ _ _ _
   | exact ih6 _ _ _ _ _ _ _ _
   | exact spec_NameOK.mono _ _
   | exact LeO.none _
   | refine LeO.ite ?_ ?_
   | refine LeO.bind ?_ (fun _ => ?_)
theorem spec_ShiftsOK.mono : ∀ a0 a1 k, LeO (spec_ShiftsOK.f k a0 a1) (spec_ShiftsOK.f (k + 1) a0 a1) := by
 intro a0 a1 k
 obtain ⟨ih0, ih1, ih2, ih3, ih4, ih5, ih6⟩ := spec_ShiftsOK.mono_l k
 unfold spec_ShiftsOK.f
 repeat' first
   | (with_reducible exact ih0 _ _ _)
   | (with_reducible exact ih1 _ _ _)
   | (with_reducible exact ih2 _ _ _ _ _ _ _)
   | (with_reducible exact ih3 _ _)
   | (with_reducible exact ih4 _ _ _ _ _ _ _ _)
   | (with_reducible exact ih5 _ _ _ _ _ _ _ _)
   | (with_reducible exact ih6 _ _ _ _ _ _ _ _)
   | (with_reducible exact spec_NameOK.mono _ _)
   | (with_reducible exact LeO.refl _)
   | (with_reducible exact LeO.none _)
   | (with_reducible refine LeO.ite ?_ ?_)
   | (with_reducible refine LeO.bind ?_ (fun _ => ?_))
   | exact ih0 _ _ _
   | exact ih1 _ _ _
   | exact ih2 _ _ _ _ _ _ _
   | exact ih3 _ _
   | exact ih4 _ _ _ _ _ _ _ _
   | exact ih5 _ _ _ _ _ _ _ _
   | exact ih6 _ _ _ _ _ _ _ _
   | exact spec_NameOK.mono _ _
   | exact LeO.none _
   | refine LeO.ite ?_ ?_
   | refine LeO.bind ?_ (fun _ => ?_)
set_option maxHeartbeats 8000000 in
set_option maxRecDepth 100000 in
theorem spec_ShiftsOK.calls (k : Nat) (A0 : Option Addr) (c0 : Nat) (l0 : List (S98)) (A1 : Option Addr) (c1 : Nat) (l1 : List (S100)) (r : Bool) (w : World) (hr0 : Kd.C k98 w A0 l0.length l0) (hc0 : l0.length ≤ c0) (hr1 : Kd.C k100 w A1 l1.length l1) (hc1 : l1.length ≤ c1) (h : spec_ShiftsOK.f k l0 l1 = some r) :
  Calls Try.prog 53 #[.slice A0 l0.length c0, .slice A1 l1.length c1] w fun e w' => e = .returned (.bool r) ∧ Below w.heap.size w w' := by
 have hu98 := Try.underlying98
 have hu100 := Try.underlying100
 have HR0 := zb hr0
 have HC0 := zb hc0
 clear hr0 hc0
 have HR1 := zb hr1
 have HC1 := zb hc1
 clear hr1 hc1
 have HB := zb (Below.refl w.heap.size w)
 have H : (if (l0.length : Int) > 8 then (spec_ShiftsOK.j0 k l0 l1 true) else (spec_ShiftsOK.j0 k l0 l1 (decide ((l1.length : Int) > 5)))) = some r := h
 clear h
 have HC3 := zb H
 clear H
 go_enter Try.func53, Try.ntmps53
 go_upto_region 1 with (fail)
 repeat (go_quiet (fail); go_upto_region 1 with (fail))
 go_cut [18] (fun v18 wc => ∃ (kq : Nat) (x18_2 : Bool), v18 = .bool x18_2 ∧ Aside0 (spec_ShiftsOK.j0 kq l0 l1 x18_2 = some r) ∧ Aside0 (kq ≤ k) ∧ Aside0 (Below w.heap.size w wc))
 case first =>
  have H := HC3.out
  clear HC3
  by_cases c4 : (l0.length : Int) > 8
  rotate_left
  ·rw [if_neg c4] at H
   have c4b0 : decide (8 < (l0.length : Int)) = false := decide_eq_false c4
   have c4b1 : decide (8 < l0.length) = false := decide_eq_false (by omega)
   clear c4
   (first | rw [c4b0] | (simp only [i64_w, i32_w]; rw [c4b0]) | skip)
   have H' := zb H
   clear H
   go_wp2
   repeat (go_quiet (fail); try go_wp2)
   go_meet
   case rel => exact ⟨_, (decide ((l1.length : Int) > 5)), zG95, H', ⟨zH101⟩, ⟨zH79⟩⟩
  rw [if_pos c4] at H
  have c4b0 : decide (8 < (l0.length : Int)) = true := decide_eq_true c4
  have c4b1 : decide (8 < l0.length) = true := decide_eq_true (by omega)
  clear c4
  (first | rw [c4b0] | (simp only [i64_w, i32_w]; rw [c4b0]) | skip)
  have H' := zb H
  clear H
  go_wp2
  repeat (go_quiet (fail); try go_wp2)
  go_meet
  case rel => exact ⟨_, (true), zG95, H', ⟨zH101⟩, ⟨zH79⟩⟩
 case rest =>
  clear HC3
  try clear c1
  try clear p2
  try clear c4
  try clear c4b0
  try clear c4b1
  obtain ⟨kq, x18_2, rfl, HA, HJ2, HB⟩ := hcut
  cases kq with
  | zero => exact absurd HA.out (by simp [spec_ShiftsOK.j0])
  | succ kj2 =>
   have H := HA.out
   clear HA
   simp only [spec_ShiftsOK.j0] at H
   by_cases c5 : x18_2 = true
   ·subst c5
    have H1 : (some false) = some r := by rw [if_pos rfl] at H; exact H
    clear H
    have H := H1
    clear H1
    obtain rfl := Option.some.inj H
    go_wp2
    repeat (go_quiet (fail); try go_wp2)
    go_ret
    exact zH24
   replace c5 := Bool.eq_false_iff.mpr c5
   subst c5
   have H1 : (spec_ShiftsOK.l0 kj2 l0 l1 0) = some r := by rw [if_neg (show ¬ (false = true) by decide)] at H; exact H
   clear H
   have H := H1
   clear H1
   have H' := zb H
   clear H
   go_wp2
   repeat (go_quiet (fail); try go_wp2)
   go_loopg [5] kj2 (fun kq v5 w' => ∃ (x5_2 : Int), v5 = .int .i64 x5_2 ∧ Aside0 (spec_ShiftsOK.l0 kq l0 l1 x5_2 = some r) ∧ Aside0 (kq ≤ kj2) ∧ Aside0 (Below w.heap.size w w'))
   case atStart => exact ⟨(0), zG95, H', ⟨Nat.le_refl _⟩, ⟨zH79⟩⟩
   case round =>
    clear H'
    try clear c1
    try clear p2
    try clear c4
    try clear c4b0
    try clear c4b1
    try clear c5
    try clear p2
    obtain ⟨x5_2, rfl, HA, HK2, HB⟩ := hrel
    cases gk with
    | zero => exact absurd HA.out (by simp [spec_ShiftsOK.l0])
    | succ k2 =>
     have H := HA.out
     clear HA
     simp only [spec_ShiftsOK.l0] at H
     by_cases c6 : x5_2 < (l0.length : Int)
     ·rw [if_pos c6] at H
      have c6b0 := decide_eq_true c6
      clear c6
      by_cases c7 : 0 ≤ x5_2
      rotate_left
      ·rw [if_neg c7] at H
       exact absurd H (by simp)
      rw [if_pos c7] at H
      have c7b0 := decide_eq_true c7
      clear c7
      have HC8 := zb H
      clear H
      have p119 : 0 ≤ (x5_2 : Int) := zO
      have q119 : x5_2 < (l0.length : Int) := zO
      obtain ⟨ad119, e119, hx119_0, hx119_1, hx119_2⟩ := at_T98 HR0.out x5_2 p119 q119
      cases e119
      replace hx119_0 := (HB.out.cell (za w _ hx119_0)).trans hx119_0
      replace hx119_1 := (HB.out.cell (za w _ hx119_1)).trans hx119_1
      replace hx119_2 := (HB.out.cell (za w _ hx119_2)).trans hx119_2
      replace p119 := eq_true p119
      replace q119 := eq_true q119
      go_upto_region 7 with (first | ((with_reducible refine gate_dst (N := 6) rfl ?_); (try (refine gate_guard (by rfl) ?_; dsimp only)); refine box_event ?hg (N := 6) ?hd (cs := #[.int .i64 0, .int .i64 0, .string (⟨#[]⟩ : ByteArray)]) (t := 98) ?hr ?_; (case hd => rfl); (case hg => rfl); (case hr => exact zH100); intro gb120 hg w9 hbox hb; have n_ := zA_ (zb (zq zG76 hb)) (zA_ (zb (hbox)) (zA_ (zb ((by rw [hg]; exact (zo zG76) : w.heap.size ≤ gb120))) (zb ((by rw [hg]; exact (zo zG76) : w.heap.size ≤ gb120))))); clear HB; obtain ⟨HB, BK120, GW120, GE120⟩ := n_; clear hb hbox hg; have hcz10_0 : w9.cell? ⟨gb120, 0, none⟩ = some (.int .i64 0) := (zg BK120.out 0).trans rfl; have hcz10_1 : w9.cell? ⟨gb120, 1, none⟩ = some (.int .i64 0) := (zg BK120.out 1).trans rfl; have hcz10_2 : w9.cell? ⟨gb120, 2, none⟩ = some (.string (⟨#[]⟩ : ByteArray)) := (zg BK120.out 2).trans rfl; have hfz10_0 := zf BK120.out 0; have hfz10_1 := zf BK120.out 1; have hfz10_2 := zf BK120.out 2))
      repeat (go_quiet (first | ((with_reducible refine gate_dst (N := 6) rfl ?_); (try (refine gate_guard (by rfl) ?_; dsimp only)); refine box_event ?hg (N := 6) ?hd (cs := #[.int .i64 0, .int .i64 0, .string (⟨#[]⟩ : ByteArray)]) (t := 98) ?hr ?_; (case hd => rfl); (case hg => rfl); (case hr => exact zH100); intro gb120 hg w9 hbox hb; have n_ := zA_ (zb (zq zG76 hb)) (zA_ (zb (hbox)) (zA_ (zb ((by rw [hg]; exact (zo zG76) : w.heap.size ≤ gb120))) (zb ((by rw [hg]; exact (zo zG76) : w.heap.size ≤ gb120))))); clear HB; obtain ⟨HB, BK120, GW120, GE120⟩ := n_; clear hb hbox hg; have hcz10_0 : w9.cell? ⟨gb120, 0, none⟩ = some (.int .i64 0) := (zg BK120.out 0).trans rfl; have hcz10_1 : w9.cell? ⟨gb120, 1, none⟩ = some (.int .i64 0) := (zg BK120.out 1).trans rfl; have hcz10_2 : w9.cell? ⟨gb120, 2, none⟩ = some (.string (⟨#[]⟩ : ByteArray)) := (zg BK120.out 2).trans rfl; have hfz10_0 := zf BK120.out 0; have hfz10_1 := zf BK120.out 1; have hfz10_2 := zf BK120.out 2)); go_upto_region 7 with (first | ((with_reducible refine gate_dst (N := 6) rfl ?_); (try (refine gate_guard (by rfl) ?_; dsimp only)); refine box_event ?hg (N := 6) ?hd (cs := #[.int .i64 0, .int .i64 0, .string (⟨#[]⟩ : ByteArray)]) (t := 98) ?hr ?_; (case hd => rfl); (case hg => rfl); (case hr => exact zH100); intro gb120 hg w9 hbox hb; have n_ := zA_ (zb (zq zG76 hb)) (zA_ (zb (hbox)) (zA_ (zb ((by rw [hg]; exact (zo zG76) : w.heap.size ≤ gb120))) (zb ((by rw [hg]; exact (zo zG76) : w.heap.size ≤ gb120))))); clear HB; obtain ⟨HB, BK120, GW120, GE120⟩ := n_; clear hb hbox hg; have hcz10_0 : w9.cell? ⟨gb120, 0, none⟩ = some (.int .i64 0) := (zg BK120.out 0).trans rfl; have hcz10_1 : w9.cell? ⟨gb120, 1, none⟩ = some (.int .i64 0) := (zg BK120.out 1).trans rfl; have hcz10_2 : w9.cell? ⟨gb120, 2, none⟩ = some (.string (⟨#[]⟩ : ByteArray)) := (zg BK120.out 2).trans rfl; have hfz10_0 := zf BK120.out 0; have hfz10_1 := zf BK120.out 1; have hfz10_2 := zf BK120.out 2)))
      (try simp only [Act.put, List.setIfInBounds_toArray, List.set_cons_zero, List.set_cons_succ])
      go_cut [49] (fun v49 wc => ∃ (kq : Nat) (x49_7 : Bool), v49 = .bool x49_7 ∧ Aside0 (spec_ShiftsOK.j2 kq l0 l1 x5_2 x49_7 ((rd_T98 l0 x5_2).f0) ((rd_T98 l0 x5_2).f1) ((rd_T98 l0 x5_2).f2) = some r) ∧ Aside0 (kq ≤ k2) ∧ Aside0 (wc.heap[gb120]? = some (.cells #[.int .i64 ((rd_T98 l0 x5_2).f0), .int .i64 ((rd_T98 l0 x5_2).f1), .string ((rd_T98 l0 x5_2).f2)] 98 (0, 0))) ∧ Aside0 (Below w.heap.size w wc))
      case first =>
       have H := HC8.out
       clear HC8
       by_cases c11 : ((rd_T98 l0 x5_2).f0) < 0
       ·rw [if_pos c11] at H
        have c11b0 := decide_eq_true c11
        clear c11
        (first | rw [c11b0] | (simp only [i64_w, i32_w]; rw [c11b0]) | skip)
        have H' := zb H
        clear H
        have hcz12_0 : w9.cell? ⟨gb120, 0, none⟩ = some (.int .i64 0) := (zg BK120.out 0).trans rfl
        have hcz12_1 : w9.cell? ⟨gb120, 1, none⟩ = some (.int .i64 0) := (zg BK120.out 1).trans rfl
        have hcz12_2 : w9.cell? ⟨gb120, 2, none⟩ = some (.string (⟨#[]⟩ : ByteArray)) := (zg BK120.out 2).trans rfl
        have hfz12_0 := zf BK120.out 0
        have hfz12_1 := zf BK120.out 1
        have hfz12_2 := zf BK120.out 2
        go_wp2
        repeat (go_quiet (fail); try go_wp2)
        go_meet
        case rel => exact ⟨_, (true), zG95, H', ⟨zH94⟩, ⟨zH2⟩, ⟨zH56⟩⟩
       rw [if_neg c11] at H
       have c11b0 := decide_eq_false c11
       clear c11
       (first | rw [c11b0] | (simp only [i64_w, i32_w]; rw [c11b0]) | skip)
       by_cases c13 : ((rd_T98 l0 x5_2).f0) ≥ ((rd_T98 l0 x5_2).f1)
       ·rw [if_pos c13] at H
        have c13b0 : decide (((rd_T98 l0 x5_2).f1) ≤ ((rd_T98 l0 x5_2).f0)) = true := decide_eq_true c13
        clear c13
        have H' := zb H
        clear H
        have hcz14_0 : w9.cell? ⟨gb120, 0, none⟩ = some (.int .i64 0) := (zg BK120.out 0).trans rfl
        have hcz14_1 : w9.cell? ⟨gb120, 1, none⟩ = some (.int .i64 0) := (zg BK120.out 1).trans rfl
        have hcz14_2 : w9.cell? ⟨gb120, 2, none⟩ = some (.string (⟨#[]⟩ : ByteArray)) := (zg BK120.out 2).trans rfl
        have hfz14_0 := zf BK120.out 0
        have hfz14_1 := zf BK120.out 1
        have hfz14_2 := zf BK120.out 2
        go_wp2
        repeat (go_quiet (fail); try go_wp2)
        go_meet
        case rel => exact ⟨_, (true), zG95, H', ⟨zH94⟩, ⟨zH2⟩, ⟨zH56⟩⟩
       rw [if_neg c13] at H
       have c13b0 : decide (((rd_T98 l0 x5_2).f1) ≤ ((rd_T98 l0 x5_2).f0)) = false := decide_eq_false c13
       clear c13
       by_cases c15 : ((rd_T98 l0 x5_2).f1) > 10080
       ·rw [if_pos c15] at H
        have c15b0 : decide (10080 < ((rd_T98 l0 x5_2).f1)) = true := decide_eq_true c15
        clear c15
        have H' := zb H
        clear H
        have hcz16_0 : w9.cell? ⟨gb120, 0, none⟩ = some (.int .i64 0) := (zg BK120.out 0).trans rfl
        have hcz16_1 : w9.cell? ⟨gb120, 1, none⟩ = some (.int .i64 0) := (zg BK120.out 1).trans rfl
        have hcz16_2 : w9.cell? ⟨gb120, 2, none⟩ = some (.string (⟨#[]⟩ : ByteArray)) := (zg BK120.out 2).trans rfl
        have hfz16_0 := zf BK120.out 0
        have hfz16_1 := zf BK120.out 1
        have hfz16_2 := zf BK120.out 2
        go_wp2
        repeat (go_quiet (fail); try go_wp2)
        go_meet
        case rel => exact ⟨_, (true), zG95, H', ⟨zH94⟩, ⟨zH2⟩, ⟨zH56⟩⟩
       rw [if_neg c15] at H
       have c15b0 : decide (10080 < ((rd_T98 l0 x5_2).f1)) = false := decide_eq_false c15
       clear c15
       replace H := Option.bind_eq_some_iff.mp H
       obtain ⟨t121, A170, H⟩ := H
       replace H : (spec_ShiftsOK.j2 k2 l0 l1 x5_2 (!t121) ((rd_T98 l0 x5_2).f0) ((rd_T98 l0 x5_2).f1) ((rd_T98 l0 x5_2).f2)) = some r := H
       have A17 := zb A170
       clear A170
       have H' := zb H
       clear H
       have hcz18_0 : w9.cell? ⟨gb120, 0, none⟩ = some (.int .i64 0) := (zg BK120.out 0).trans rfl
       have hcz18_1 : w9.cell? ⟨gb120, 1, none⟩ = some (.int .i64 0) := (zg BK120.out 1).trans rfl
       have hcz18_2 : w9.cell? ⟨gb120, 2, none⟩ = some (.string (⟨#[]⟩ : ByteArray)) := (zg BK120.out 2).trans rfl
       have hfz18_0 := zf BK120.out 0
       have hfz18_1 := zf BK120.out 1
       have hfz18_2 := zf BK120.out 2
       go_wp2_with (first | (go_at_call 69; (with_reducible refine (spec_NameOK.calls k2 ((rd_T98 l0 x5_2).f2) t121 _ A17.out).mono ?_); rintro e w' ⟨rfl, ⟨nd, rfl⟩⟩; (try first | exact ⟨rfl, _, World.drewN_drewN _ _ _⟩ | exact ⟨rfl, _, Eq.trans (World.drewN_drewN _ _ _) (congrArg (World.drewN _) (Nat.add_assoc _ _ _))⟩)))
       repeat (go_quiet (first | (go_at_call 69; (with_reducible refine (spec_NameOK.calls k2 ((rd_T98 l0 x5_2).f2) t121 _ A17.out).mono ?_); rintro e w' ⟨rfl, ⟨nd, rfl⟩⟩; (try first | exact ⟨rfl, _, World.drewN_drewN _ _ _⟩ | exact ⟨rfl, _, Eq.trans (World.drewN_drewN _ _ _) (congrArg (World.drewN _) (Nat.add_assoc _ _ _))⟩))); try go_wp2_with (first | (go_at_call 69; (with_reducible refine (spec_NameOK.calls k2 ((rd_T98 l0 x5_2).f2) t121 _ A17.out).mono ?_); rintro e w' ⟨rfl, ⟨nd, rfl⟩⟩; (try first | exact ⟨rfl, _, World.drewN_drewN _ _ _⟩ | exact ⟨rfl, _, Eq.trans (World.drewN_drewN _ _ _) (congrArg (World.drewN _) (Nat.add_assoc _ _ _))⟩))))
       go_meet
       case rel => exact ⟨_, (!t121), zG95, H', ⟨zH94⟩, ⟨zH2⟩, ⟨zH56⟩⟩
      case rest =>
       clear HC8
       try clear c1
       try clear p1
       try clear q1
       try clear hx1
       try clear p2
       try clear c4
       try clear c4b0
       try clear c4b1
       try clear c5
       try clear c6
       try clear c6b0
       try clear c7
       try clear c7b0
       try clear c11
       try clear c11b0
       try clear p11
       try clear q11
       try clear hx11
       try clear c13
       try clear c13b0
       try clear c15
       try clear c15b0
       try clear hcz10_0
       try clear hcz10_1
       try clear hcz10_2
       try clear hcz12_0
       try clear hcz12_1
       try clear hcz12_2
       try clear hcz14_0
       try clear hcz14_1
       try clear hcz14_2
       try clear hcz16_0
       try clear hcz16_1
       try clear hcz16_2
       try clear hcz18_0
       try clear hcz18_1
       try clear hcz18_2
       try clear hfz10_0
       try clear hfz10_1
       try clear hfz10_2
       try clear hfz12_0
       try clear hfz12_1
       try clear hfz12_2
       try clear hfz14_0
       try clear hfz14_1
       try clear hfz14_2
       try clear hfz16_0
       try clear hfz16_1
       try clear hfz16_2
       try clear hfz18_0
       try clear hfz18_1
       try clear hfz18_2
       try clear hx119_0
       try clear hx119_1
       try clear hx119_2
       try clear p119
       try clear p2
       try clear q119
       obtain ⟨kq, x49_7, rfl, HA, HJ7, BK120, HB⟩ := hcut
       cases kq with
       | zero => exact absurd HA.out (by simp [spec_ShiftsOK.j2])
       | succ kj7 =>
        have H := HA.out
        clear HA
        simp only [spec_ShiftsOK.j2] at H
        by_cases c19 : x49_7 = true
        ·subst c19
         have H1 : (some false) = some r := by rw [if_pos rfl] at H; exact H
         clear H
         have H := H1
         clear H1
         obtain rfl := Option.some.inj H
         go_wp2
         repeat (go_quiet (fail); try go_wp2)
         go_ret
         exact ⟨zH89, zH56⟩
        replace c19 := Bool.eq_false_iff.mpr c19
        subst c19
        have H1 : (if x5_2 > 0 then (if 0 ≤ (wrap64 (x5_2 - 1)) then (if (wrap64 (x5_2 - 1)) < (l0.length : Int) then (if ((rd_T98 l0 x5_2).f0) < ((rd_T98 l0 (wrap64 (x5_2 - 1))).f0) then (some false) else (spec_ShiftsOK.l0 kj7 l0 l1 (wrap64 (x5_2 + 1)))) else (none)) else (none)) else (spec_ShiftsOK.l0 kj7 l0 l1 (wrap64 (x5_2 + 1)))) = some r := by rw [if_neg (show ¬ (false = true) by decide)] at H; exact H
        clear H
        have H := H1
        clear H1
        by_cases c20 : x5_2 > 0
        rotate_left
        ·rw [if_neg c20] at H
         have c20b0 : decide (0 < x5_2) = false := decide_eq_false c20
         clear c20
         have H' := zb H
         clear H
         go_wp2
         repeat (go_quiet (fail); try go_wp2)
         go_roundg kj7
         case measure => have := HJ2.out; have := HK2.out; have := HJ7.out; omega
         case rel => exact ⟨(wrap64 (x5_2 + 1)), zG95, H', ⟨by have := HJ2.out; have := HK2.out; have := HJ7.out; omega⟩, ⟨zH56⟩⟩
        rw [if_pos c20] at H
        have c20b0 : decide (0 < x5_2) = true := decide_eq_true c20
        clear c20
        obtain ⟨ji21, hji21⟩ : ∃ j_ : Int, (wrap64 (x5_2 - 1)) = j_ := ⟨_, rfl⟩
        replace H : (if 0 ≤ (ji21) then (if (ji21) < (l0.length : Int) then (if ((rd_T98 l0 x5_2).f0) < ((rd_T98 l0 (ji21)).f0) then (some false) else (spec_ShiftsOK.l0 kj7 l0 l1 (wrap64 (x5_2 + 1)))) else (none)) else (none)) = some r := by first | (rw [hji21] at H; exact H) | (simp only [hji21] at H ⊢; exact H)
        have hji21w : (IntKind.i64.wrap (x5_2 - 1)) = ji21 := (i64_w _).trans hji21
        by_cases c22 : 0 ≤ (ji21)
        rotate_left
        ·rw [if_neg c22] at H
         exact absurd H (by simp)
        rw [if_pos c22] at H
        have c22b0 := decide_eq_true c22
        clear c22
        by_cases c23 : (ji21) < (l0.length : Int)
        rotate_left
        ·rw [if_neg c23] at H
         exact absurd H (by simp)
        rw [if_pos c23] at H
        have c23b0 := decide_eq_true c23
        clear c23
        by_cases c24 : ((rd_T98 l0 x5_2).f0) < ((rd_T98 l0 (ji21)).f0)
        ·rw [if_pos c24] at H
         have c24b0 := decide_eq_true c24
         clear c24
         obtain rfl := Option.some.inj H
         have hcz25_0 : wc.cell? ⟨gb120, 0, none⟩ = some (.int .i64 ((rd_T98 l0 x5_2).f0)) := (zg BK120.out 0).trans rfl
         have hcz25_1 : wc.cell? ⟨gb120, 1, none⟩ = some (.int .i64 ((rd_T98 l0 x5_2).f1)) := (zg BK120.out 1).trans rfl
         have hcz25_2 : wc.cell? ⟨gb120, 2, none⟩ = some (.string ((rd_T98 l0 x5_2).f2)) := (zg BK120.out 2).trans rfl
         have hfz25_0 := zf BK120.out 0
         have hfz25_1 := zf BK120.out 1
         have hfz25_2 := zf BK120.out 2
         have p122 : 0 ≤ ((ji21) : Int) := zO
         have q122 : (ji21) < (l0.length : Int) := zO
         obtain ⟨ad122, e122, hx122_0, hx122_1, hx122_2⟩ := at_T98 HR0.out (ji21) p122 q122
         obtain rfl : ad119 = ad122 := (by injection e122)
         replace hx122_0 := (HB.out.cell (za w _ hx122_0)).trans hx122_0
         replace hx122_1 := (HB.out.cell (za w _ hx122_1)).trans hx122_1
         replace hx122_2 := (HB.out.cell (za w _ hx122_2)).trans hx122_2
         replace p122 := eq_true p122
         replace q122 := eq_true q122
         go_wp2
         repeat (go_quiet (fail); try go_wp2)
         go_ret
         exact ⟨by first | rfl | (simp [errW_none, errW_some] <;> rfl) | (simp only [← hji21]; first | rfl | (simp [errW_none, errW_some] <;> rfl)) | (simp [*, errW_none, errW_some] <;> rfl), zH56⟩
        rw [if_neg c24] at H
        have c24b0 := decide_eq_false c24
        clear c24
        have H' := zb H
        clear H
        have hcz26_0 : wc.cell? ⟨gb120, 0, none⟩ = some (.int .i64 ((rd_T98 l0 x5_2).f0)) := (zg BK120.out 0).trans rfl
        have hcz26_1 : wc.cell? ⟨gb120, 1, none⟩ = some (.int .i64 ((rd_T98 l0 x5_2).f1)) := (zg BK120.out 1).trans rfl
        have hcz26_2 : wc.cell? ⟨gb120, 2, none⟩ = some (.string ((rd_T98 l0 x5_2).f2)) := (zg BK120.out 2).trans rfl
        have hfz26_0 := zf BK120.out 0
        have hfz26_1 := zf BK120.out 1
        have hfz26_2 := zf BK120.out 2
        have p122 : 0 ≤ ((ji21) : Int) := zO
        have q122 : (ji21) < (l0.length : Int) := zO
        obtain ⟨ad122, e122, hx122_0, hx122_1, hx122_2⟩ := at_T98 HR0.out (ji21) p122 q122
        obtain rfl : ad119 = ad122 := (by injection e122)
        replace hx122_0 := (HB.out.cell (za w _ hx122_0)).trans hx122_0
        replace hx122_1 := (HB.out.cell (za w _ hx122_1)).trans hx122_1
        replace hx122_2 := (HB.out.cell (za w _ hx122_2)).trans hx122_2
        replace p122 := eq_true p122
        replace q122 := eq_true q122
        go_wp2
        repeat (go_quiet (fail); try go_wp2)
        go_roundg kj7
        case measure => have := HJ2.out; have := HK2.out; have := HJ7.out; omega
        case rel => exact ⟨(wrap64 (x5_2 + 1)), zG95, H', ⟨by have := HJ2.out; have := HK2.out; have := HJ7.out; omega⟩, ⟨zH56⟩⟩
     rw [if_neg c6] at H
     have c6b0 := decide_eq_false c6
     clear c6
     have H' := zb H
     clear H
     go_wp2
     repeat (go_quiet (fail); try go_wp2)
     go_loopg [7] k2 (fun kq v7 w' => ∃ (x7_3 : Int), v7 = .int .i64 x7_3 ∧ Aside0 (spec_ShiftsOK.l1 kq l1 x7_3 = some r) ∧ Aside0 (kq ≤ k2) ∧ Aside0 (Below w.heap.size w w'))
     case atStart => exact ⟨(0), zG95, H', ⟨Nat.le_refl _⟩, ⟨zH79⟩⟩
     case round =>
      clear H'
      try clear c1
      try clear p1
      try clear q1
      try clear hx1
      try clear c2
      try clear p2
      try clear c4
      try clear c4b0
      try clear c4b1
      try clear c5
      try clear c6
      try clear c6b0
      try clear p6
      try clear c7
      try clear c7b0
      try clear c11
      try clear c11b0
      try clear p11
      try clear q11
      try clear hx11
      try clear p12
      try clear q12
      try clear hx12
      try clear c13
      try clear c13b0
      try clear c15
      try clear c15b0
      try clear c19
      try clear c20
      try clear c20b0
      try clear c22
      try clear c22b0
      try clear c23
      try clear c23b0
      try clear c24
      try clear c24b0
      try clear hcz10_0
      try clear hcz10_1
      try clear hcz10_2
      try clear hcz12_0
      try clear hcz12_1
      try clear hcz12_2
      try clear hcz14_0
      try clear hcz14_1
      try clear hcz14_2
      try clear hcz16_0
      try clear hcz16_1
      try clear hcz16_2
      try clear hcz18_0
      try clear hcz18_1
      try clear hcz18_2
      try clear hcz25_0
      try clear hcz25_1
      try clear hcz25_2
      try clear hcz26_0
      try clear hcz26_1
      try clear hcz26_2
      try clear hfz10_0
      try clear hfz10_1
      try clear hfz10_2
      try clear hfz12_0
      try clear hfz12_1
      try clear hfz12_2
      try clear hfz14_0
      try clear hfz14_1
      try clear hfz14_2
      try clear hfz16_0
      try clear hfz16_1
      try clear hfz16_2
      try clear hfz18_0
      try clear hfz18_1
      try clear hfz18_2
      try clear hfz25_0
      try clear hfz25_1
      try clear hfz25_2
      try clear hfz26_0
      try clear hfz26_1
      try clear hfz26_2
      try clear hx119_0
      try clear hx119_1
      try clear hx119_2
      try clear hx122_0
      try clear hx122_1
      try clear hx122_2
      try clear p1
      try clear p11
      try clear p119
      try clear p122
      try clear p2
      try clear q1
      try clear q11
      try clear q119
      try clear q122
      obtain ⟨x7_3, rfl, HA, HK3, HB⟩ := hrel
      cases gk with
      | zero => exact absurd HA.out (by simp [spec_ShiftsOK.l1])
      | succ k3 =>
       have H := HA.out
       clear HA
       simp only [spec_ShiftsOK.l1] at H
       by_cases c27 : x7_3 < (l1.length : Int)
       rotate_left
       ·rw [if_neg c27] at H
        have c27b0 := decide_eq_false c27
        clear c27
        obtain rfl := Option.some.inj H
        go_wp2
        repeat (go_quiet (fail); try go_wp2)
        go_ret
        exact zH24

       rw [if_pos c27] at H
       have c27b0 := decide_eq_true c27
       clear c27
       by_cases c28 : 0 ≤ x7_3
       rotate_left
       ·rw [if_neg c28] at H
        exact absurd H (by simp)
       rw [if_pos c28] at H
       have c28b0 := decide_eq_true c28
       clear c28
       have HC29 := zb H
       clear H
       have p123 : 0 ≤ (x7_3 : Int) := zO
       have q123 : x7_3 < (l1.length : Int) := zO
       obtain ⟨ad123, A123_4, c123_4, e123, hx123_0, hx123_1, hx123_2, hx123_3, hx123_4, hl123_4, hi123_4⟩ := at_T100 HR1.out x7_3 p123 q123
       cases e123
       replace hx123_0 := (HB.out.cell (za w _ hx123_0)).trans hx123_0
       replace hx123_1 := (HB.out.cell (za w _ hx123_1)).trans hx123_1
       replace hx123_2 := (HB.out.cell (za w _ hx123_2)).trans hx123_2
       replace hx123_3 := (HB.out.cell (za w _ hx123_3)).trans hx123_3
       replace hx123_4 := (HB.out.cell (za w _ hx123_4)).trans hx123_4
       have HR123_4 := zb hi123_4
       have HC123_4 := zb hl123_4
       clear hi123_4 hl123_4
       replace p123 := eq_true p123
       replace q123 := eq_true q123
       go_upto_region 15 with (first | ((with_reducible refine gate_dst (N := 8) rfl ?_); (try (refine gate_guard (by rfl) ?_; dsimp only)); refine box_event ?hg (N := 8) ?hd (cs := #[.string (⟨#[]⟩ : ByteArray), .int .i64 0, .int .i64 0, .int .i64 0, .slice none 0 0]) (t := 100) ?hr ?_; (case hd => rfl); (case hg => rfl); (case hr => exact zH100); intro gb124 hg w30 hbox hb; have n_ := zA_ (zb (zq zG76 hb)) (zA_ (zb (hbox)) (zA_ (zb ((by rw [hg]; exact (zo zG76) : w.heap.size ≤ gb124))) (zb ((by rw [hg]; exact (zo zG76) : w.heap.size ≤ gb124))))); clear HB; obtain ⟨HB, BK124, GW124, GE124⟩ := n_; clear hb hbox hg; have hcz31_0 : w30.cell? ⟨gb124, 0, none⟩ = some (.string (⟨#[]⟩ : ByteArray)) := (zg BK124.out 0).trans rfl; have hcz31_1 : w30.cell? ⟨gb124, 1, none⟩ = some (.int .i64 0) := (zg BK124.out 1).trans rfl; have hcz31_2 : w30.cell? ⟨gb124, 2, none⟩ = some (.int .i64 0) := (zg BK124.out 2).trans rfl; have hcz31_3 : w30.cell? ⟨gb124, 3, none⟩ = some (.int .i64 0) := (zg BK124.out 3).trans rfl; have hcz31_4 : w30.cell? ⟨gb124, 4, none⟩ = some (.slice none 0 0) := (zg BK124.out 4).trans rfl; have hfz31_0 := zf BK124.out 0; have hfz31_1 := zf BK124.out 1; have hfz31_2 := zf BK124.out 2; have hfz31_3 := zf BK124.out 3; have hfz31_4 := zf BK124.out 4))
       repeat (go_quiet (first | ((with_reducible refine gate_dst (N := 8) rfl ?_); (try (refine gate_guard (by rfl) ?_; dsimp only)); refine box_event ?hg (N := 8) ?hd (cs := #[.string (⟨#[]⟩ : ByteArray), .int .i64 0, .int .i64 0, .int .i64 0, .slice none 0 0]) (t := 100) ?hr ?_; (case hd => rfl); (case hg => rfl); (case hr => exact zH100); intro gb124 hg w30 hbox hb; have n_ := zA_ (zb (zq zG76 hb)) (zA_ (zb (hbox)) (zA_ (zb ((by rw [hg]; exact (zo zG76) : w.heap.size ≤ gb124))) (zb ((by rw [hg]; exact (zo zG76) : w.heap.size ≤ gb124))))); clear HB; obtain ⟨HB, BK124, GW124, GE124⟩ := n_; clear hb hbox hg; have hcz31_0 : w30.cell? ⟨gb124, 0, none⟩ = some (.string (⟨#[]⟩ : ByteArray)) := (zg BK124.out 0).trans rfl; have hcz31_1 : w30.cell? ⟨gb124, 1, none⟩ = some (.int .i64 0) := (zg BK124.out 1).trans rfl; have hcz31_2 : w30.cell? ⟨gb124, 2, none⟩ = some (.int .i64 0) := (zg BK124.out 2).trans rfl; have hcz31_3 : w30.cell? ⟨gb124, 3, none⟩ = some (.int .i64 0) := (zg BK124.out 3).trans rfl; have hcz31_4 : w30.cell? ⟨gb124, 4, none⟩ = some (.slice none 0 0) := (zg BK124.out 4).trans rfl; have hfz31_0 := zf BK124.out 0; have hfz31_1 := zf BK124.out 1; have hfz31_2 := zf BK124.out 2; have hfz31_3 := zf BK124.out 3; have hfz31_4 := zf BK124.out 4)); go_upto_region 15 with (first | ((with_reducible refine gate_dst (N := 8) rfl ?_); (try (refine gate_guard (by rfl) ?_; dsimp only)); refine box_event ?hg (N := 8) ?hd (cs := #[.string (⟨#[]⟩ : ByteArray), .int .i64 0, .int .i64 0, .int .i64 0, .slice none 0 0]) (t := 100) ?hr ?_; (case hd => rfl); (case hg => rfl); (case hr => exact zH100); intro gb124 hg w30 hbox hb; have n_ := zA_ (zb (zq zG76 hb)) (zA_ (zb (hbox)) (zA_ (zb ((by rw [hg]; exact (zo zG76) : w.heap.size ≤ gb124))) (zb ((by rw [hg]; exact (zo zG76) : w.heap.size ≤ gb124))))); clear HB; obtain ⟨HB, BK124, GW124, GE124⟩ := n_; clear hb hbox hg; have hcz31_0 : w30.cell? ⟨gb124, 0, none⟩ = some (.string (⟨#[]⟩ : ByteArray)) := (zg BK124.out 0).trans rfl; have hcz31_1 : w30.cell? ⟨gb124, 1, none⟩ = some (.int .i64 0) := (zg BK124.out 1).trans rfl; have hcz31_2 : w30.cell? ⟨gb124, 2, none⟩ = some (.int .i64 0) := (zg BK124.out 2).trans rfl; have hcz31_3 : w30.cell? ⟨gb124, 3, none⟩ = some (.int .i64 0) := (zg BK124.out 3).trans rfl; have hcz31_4 : w30.cell? ⟨gb124, 4, none⟩ = some (.slice none 0 0) := (zg BK124.out 4).trans rfl; have hfz31_0 := zf BK124.out 0; have hfz31_1 := zf BK124.out 1; have hfz31_2 := zf BK124.out 2; have hfz31_3 := zf BK124.out 3; have hfz31_4 := zf BK124.out 4)))
       (try simp only [Act.put, List.setIfInBounds_toArray, List.set_cons_zero, List.set_cons_succ])
       go_cut [100] (fun v100 wc => ∃ (kq : Nat) (x100_28 : Bool), v100 = .bool x100_28 ∧ Aside0 (spec_ShiftsOK.j4 kq l1 x7_3 x100_28 ((rd_T100 l1 x7_3).f0) ((rd_T100 l1 x7_3).f1) ((rd_T100 l1 x7_3).f2) ((rd_T100 l1 x7_3).f3) ((rd_T100 l1 x7_3).f4) = some r) ∧ Aside0 (kq ≤ k3) ∧ Aside0 (wc.heap[gb124]? = some (.cells #[.string ((rd_T100 l1 x7_3).f0), .int .i64 ((rd_T100 l1 x7_3).f1), .int .i64 ((rd_T100 l1 x7_3).f2), .int .i64 ((rd_T100 l1 x7_3).f3), (.slice A123_4 ((rd_T100 l1 x7_3).f4).length c123_4)] 100 (0, 0))) ∧ Aside0 (Below w.heap.size w wc))
       case first =>
        have H := HC29.out
        clear HC29
        replace H := Option.bind_eq_some_iff.mp H
        obtain ⟨t125, A320, H⟩ := H
        replace H : (if t125 = true then ((spec_l01In.f ((rd_T100 l1 x7_3).f1) 0 10080).bind fun t126 => (if t126 = true then ((spec_l01In.f ((rd_T100 l1 x7_3).f2) 0 10080).bind fun t127 => (if t127 = true then ((spec_l01In.f ((rd_T100 l1 x7_3).f3) 0 1000).bind fun t128 => (if t128 = true then (spec_ShiftsOK.j4 k3 l1 x7_3 (decide ((((rd_T100 l1 x7_3).f4).length : Int) > 6)) ((rd_T100 l1 x7_3).f0) ((rd_T100 l1 x7_3).f1) ((rd_T100 l1 x7_3).f2) ((rd_T100 l1 x7_3).f3) ((rd_T100 l1 x7_3).f4)) else (spec_ShiftsOK.j4 k3 l1 x7_3 true ((rd_T100 l1 x7_3).f0) ((rd_T100 l1 x7_3).f1) ((rd_T100 l1 x7_3).f2) ((rd_T100 l1 x7_3).f3) ((rd_T100 l1 x7_3).f4)))) else (spec_ShiftsOK.j4 k3 l1 x7_3 true ((rd_T100 l1 x7_3).f0) ((rd_T100 l1 x7_3).f1) ((rd_T100 l1 x7_3).f2) ((rd_T100 l1 x7_3).f3) ((rd_T100 l1 x7_3).f4)))) else (spec_ShiftsOK.j4 k3 l1 x7_3 true ((rd_T100 l1 x7_3).f0) ((rd_T100 l1 x7_3).f1) ((rd_T100 l1 x7_3).f2) ((rd_T100 l1 x7_3).f3) ((rd_T100 l1 x7_3).f4)))) else (spec_ShiftsOK.j4 k3 l1 x7_3 true ((rd_T100 l1 x7_3).f0) ((rd_T100 l1 x7_3).f1) ((rd_T100 l1 x7_3).f2) ((rd_T100 l1 x7_3).f3) ((rd_T100 l1 x7_3).f4))) = some r := H
        have A32 := zb A320
        clear A320
        by_cases c33 : t125 = true
        rotate_left
        ·replace c33 := Bool.eq_false_iff.mpr c33
         subst c33
         have H1 : (spec_ShiftsOK.j4 k3 l1 x7_3 true ((rd_T100 l1 x7_3).f0) ((rd_T100 l1 x7_3).f1) ((rd_T100 l1 x7_3).f2) ((rd_T100 l1 x7_3).f3) ((rd_T100 l1 x7_3).f4)) = some r := by rw [if_neg (show ¬ (false = true) by decide)] at H; exact H
         clear H
         have H := H1
         clear H1
         have H' := zb H
         clear H
         have hcz44_0 : w30.cell? ⟨gb124, 0, none⟩ = some (.string (⟨#[]⟩ : ByteArray)) := (zg BK124.out 0).trans rfl
         have hcz44_1 : w30.cell? ⟨gb124, 1, none⟩ = some (.int .i64 0) := (zg BK124.out 1).trans rfl
         have hcz44_2 : w30.cell? ⟨gb124, 2, none⟩ = some (.int .i64 0) := (zg BK124.out 2).trans rfl
         have hcz44_3 : w30.cell? ⟨gb124, 3, none⟩ = some (.int .i64 0) := (zg BK124.out 3).trans rfl
         have hcz44_4 : w30.cell? ⟨gb124, 4, none⟩ = some (.slice none 0 0) := (zg BK124.out 4).trans rfl
         have hfz44_0 := zf BK124.out 0
         have hfz44_1 := zf BK124.out 1
         have hfz44_2 := zf BK124.out 2
         have hfz44_3 := zf BK124.out 3
         have hfz44_4 := zf BK124.out 4
         go_wp2_with (first | (go_at_call 69; (with_reducible refine (spec_NameOK.calls k3 ((rd_T100 l1 x7_3).f0) false _ A32.out).mono ?_); rintro e w' ⟨rfl, ⟨nd, rfl⟩⟩; (try first | exact ⟨rfl, _, World.drewN_drewN _ _ _⟩ | exact ⟨rfl, _, Eq.trans (World.drewN_drewN _ _ _) (congrArg (World.drewN _) (Nat.add_assoc _ _ _))⟩)))
         repeat (go_quiet (first | (go_at_call 69; (with_reducible refine (spec_NameOK.calls k3 ((rd_T100 l1 x7_3).f0) false _ A32.out).mono ?_); rintro e w' ⟨rfl, ⟨nd, rfl⟩⟩; (try first | exact ⟨rfl, _, World.drewN_drewN _ _ _⟩ | exact ⟨rfl, _, Eq.trans (World.drewN_drewN _ _ _) (congrArg (World.drewN _) (Nat.add_assoc _ _ _))⟩))); try go_wp2_with (first | (go_at_call 69; (with_reducible refine (spec_NameOK.calls k3 ((rd_T100 l1 x7_3).f0) false _ A32.out).mono ?_); rintro e w' ⟨rfl, ⟨nd, rfl⟩⟩; (try first | exact ⟨rfl, _, World.drewN_drewN _ _ _⟩ | exact ⟨rfl, _, Eq.trans (World.drewN_drewN _ _ _) (congrArg (World.drewN _) (Nat.add_assoc _ _ _))⟩))))
         go_meet
         case rel => exact ⟨_, (true), zG95, H', ⟨zH90⟩, ⟨zH0⟩, ⟨zH60⟩⟩
        subst c33
        have H1 : ((spec_l01In.f ((rd_T100 l1 x7_3).f1) 0 10080).bind fun t126 => (if t126 = true then ((spec_l01In.f ((rd_T100 l1 x7_3).f2) 0 10080).bind fun t127 => (if t127 = true then ((spec_l01In.f ((rd_T100 l1 x7_3).f3) 0 1000).bind fun t128 => (if t128 = true then (spec_ShiftsOK.j4 k3 l1 x7_3 (decide ((((rd_T100 l1 x7_3).f4).length : Int) > 6)) ((rd_T100 l1 x7_3).f0) ((rd_T100 l1 x7_3).f1) ((rd_T100 l1 x7_3).f2) ((rd_T100 l1 x7_3).f3) ((rd_T100 l1 x7_3).f4)) else (spec_ShiftsOK.j4 k3 l1 x7_3 true ((rd_T100 l1 x7_3).f0) ((rd_T100 l1 x7_3).f1) ((rd_T100 l1 x7_3).f2) ((rd_T100 l1 x7_3).f3) ((rd_T100 l1 x7_3).f4)))) else (spec_ShiftsOK.j4 k3 l1 x7_3 true ((rd_T100 l1 x7_3).f0) ((rd_T100 l1 x7_3).f1) ((rd_T100 l1 x7_3).f2) ((rd_T100 l1 x7_3).f3) ((rd_T100 l1 x7_3).f4)))) else (spec_ShiftsOK.j4 k3 l1 x7_3 true ((rd_T100 l1 x7_3).f0) ((rd_T100 l1 x7_3).f1) ((rd_T100 l1 x7_3).f2) ((rd_T100 l1 x7_3).f3) ((rd_T100 l1 x7_3).f4)))) = some r := by rw [if_pos rfl] at H; exact H
        clear H
        have H := H1
        clear H1
        replace H := Option.bind_eq_some_iff.mp H
        obtain ⟨t126, A340, H⟩ := H
        replace H : (if t126 = true then ((spec_l01In.f ((rd_T100 l1 x7_3).f2) 0 10080).bind fun t127 => (if t127 = true then ((spec_l01In.f ((rd_T100 l1 x7_3).f3) 0 1000).bind fun t128 => (if t128 = true then (spec_ShiftsOK.j4 k3 l1 x7_3 (decide ((((rd_T100 l1 x7_3).f4).length : Int) > 6)) ((rd_T100 l1 x7_3).f0) ((rd_T100 l1 x7_3).f1) ((rd_T100 l1 x7_3).f2) ((rd_T100 l1 x7_3).f3) ((rd_T100 l1 x7_3).f4)) else (spec_ShiftsOK.j4 k3 l1 x7_3 true ((rd_T100 l1 x7_3).f0) ((rd_T100 l1 x7_3).f1) ((rd_T100 l1 x7_3).f2) ((rd_T100 l1 x7_3).f3) ((rd_T100 l1 x7_3).f4)))) else (spec_ShiftsOK.j4 k3 l1 x7_3 true ((rd_T100 l1 x7_3).f0) ((rd_T100 l1 x7_3).f1) ((rd_T100 l1 x7_3).f2) ((rd_T100 l1 x7_3).f3) ((rd_T100 l1 x7_3).f4)))) else (spec_ShiftsOK.j4 k3 l1 x7_3 true ((rd_T100 l1 x7_3).f0) ((rd_T100 l1 x7_3).f1) ((rd_T100 l1 x7_3).f2) ((rd_T100 l1 x7_3).f3) ((rd_T100 l1 x7_3).f4))) = some r := H
        have A34 := zb A340
        clear A340
        by_cases c35 : t126 = true
        rotate_left
        ·replace c35 := Bool.eq_false_iff.mpr c35
         subst c35
         have H1 : (spec_ShiftsOK.j4 k3 l1 x7_3 true ((rd_T100 l1 x7_3).f0) ((rd_T100 l1 x7_3).f1) ((rd_T100 l1 x7_3).f2) ((rd_T100 l1 x7_3).f3) ((rd_T100 l1 x7_3).f4)) = some r := by rw [if_neg (show ¬ (false = true) by decide)] at H; exact H
         clear H
         have H := H1
         clear H1
         have H' := zb H
         clear H
         have hcz43_0 : w30.cell? ⟨gb124, 0, none⟩ = some (.string (⟨#[]⟩ : ByteArray)) := (zg BK124.out 0).trans rfl
         have hcz43_1 : w30.cell? ⟨gb124, 1, none⟩ = some (.int .i64 0) := (zg BK124.out 1).trans rfl
         have hcz43_2 : w30.cell? ⟨gb124, 2, none⟩ = some (.int .i64 0) := (zg BK124.out 2).trans rfl
         have hcz43_3 : w30.cell? ⟨gb124, 3, none⟩ = some (.int .i64 0) := (zg BK124.out 3).trans rfl
         have hcz43_4 : w30.cell? ⟨gb124, 4, none⟩ = some (.slice none 0 0) := (zg BK124.out 4).trans rfl
         have hfz43_0 := zf BK124.out 0
         have hfz43_1 := zf BK124.out 1
         have hfz43_2 := zf BK124.out 2
         have hfz43_3 := zf BK124.out 3
         have hfz43_4 := zf BK124.out 4
         go_wp2_with (first | (go_at_call 69; (with_reducible refine (spec_NameOK.calls k3 ((rd_T100 l1 x7_3).f0) true _ A32.out).mono ?_); rintro e w' ⟨rfl, ⟨nd, rfl⟩⟩; (try first | exact ⟨rfl, _, World.drewN_drewN _ _ _⟩ | exact ⟨rfl, _, Eq.trans (World.drewN_drewN _ _ _) (congrArg (World.drewN _) (Nat.add_assoc _ _ _))⟩)) | (go_at_call 37; (with_reducible refine (spec_l01In.calls ((rd_T100 l1 x7_3).f1) 0 10080 false _ A34.out).mono ?_); rintro e w' ⟨rfl, ⟨nd, rfl⟩⟩; (try first | exact ⟨rfl, _, World.drewN_drewN _ _ _⟩ | exact ⟨rfl, _, Eq.trans (World.drewN_drewN _ _ _) (congrArg (World.drewN _) (Nat.add_assoc _ _ _))⟩)))
         repeat (go_quiet (first | (go_at_call 69; (with_reducible refine (spec_NameOK.calls k3 ((rd_T100 l1 x7_3).f0) true _ A32.out).mono ?_); rintro e w' ⟨rfl, ⟨nd, rfl⟩⟩; (try first | exact ⟨rfl, _, World.drewN_drewN _ _ _⟩ | exact ⟨rfl, _, Eq.trans (World.drewN_drewN _ _ _) (congrArg (World.drewN _) (Nat.add_assoc _ _ _))⟩)) | (go_at_call 37; (with_reducible refine (spec_l01In.calls ((rd_T100 l1 x7_3).f1) 0 10080 false _ A34.out).mono ?_); rintro e w' ⟨rfl, ⟨nd, rfl⟩⟩; (try first | exact ⟨rfl, _, World.drewN_drewN _ _ _⟩ | exact ⟨rfl, _, Eq.trans (World.drewN_drewN _ _ _) (congrArg (World.drewN _) (Nat.add_assoc _ _ _))⟩))); try go_wp2_with (first | (go_at_call 69; (with_reducible refine (spec_NameOK.calls k3 ((rd_T100 l1 x7_3).f0) true _ A32.out).mono ?_); rintro e w' ⟨rfl, ⟨nd, rfl⟩⟩; (try first | exact ⟨rfl, _, World.drewN_drewN _ _ _⟩ | exact ⟨rfl, _, Eq.trans (World.drewN_drewN _ _ _) (congrArg (World.drewN _) (Nat.add_assoc _ _ _))⟩)) | (go_at_call 37; (with_reducible refine (spec_l01In.calls ((rd_T100 l1 x7_3).f1) 0 10080 false _ A34.out).mono ?_); rintro e w' ⟨rfl, ⟨nd, rfl⟩⟩; (try first | exact ⟨rfl, _, World.drewN_drewN _ _ _⟩ | exact ⟨rfl, _, Eq.trans (World.drewN_drewN _ _ _) (congrArg (World.drewN _) (Nat.add_assoc _ _ _))⟩))))
         go_meet
         case rel => exact ⟨_, (true), zG95, H', ⟨zH90⟩, ⟨zH0⟩, ⟨zH60⟩⟩
        subst c35
        have H1 : ((spec_l01In.f ((rd_T100 l1 x7_3).f2) 0 10080).bind fun t127 => (if t127 = true then ((spec_l01In.f ((rd_T100 l1 x7_3).f3) 0 1000).bind fun t128 => (if t128 = true then (spec_ShiftsOK.j4 k3 l1 x7_3 (decide ((((rd_T100 l1 x7_3).f4).length : Int) > 6)) ((rd_T100 l1 x7_3).f0) ((rd_T100 l1 x7_3).f1) ((rd_T100 l1 x7_3).f2) ((rd_T100 l1 x7_3).f3) ((rd_T100 l1 x7_3).f4)) else (spec_ShiftsOK.j4 k3 l1 x7_3 true ((rd_T100 l1 x7_3).f0) ((rd_T100 l1 x7_3).f1) ((rd_T100 l1 x7_3).f2) ((rd_T100 l1 x7_3).f3) ((rd_T100 l1 x7_3).f4)))) else (spec_ShiftsOK.j4 k3 l1 x7_3 true ((rd_T100 l1 x7_3).f0) ((rd_T100 l1 x7_3).f1) ((rd_T100 l1 x7_3).f2) ((rd_T100 l1 x7_3).f3) ((rd_T100 l1 x7_3).f4)))) = some r := by rw [if_pos rfl] at H; exact H
        clear H
        have H := H1
        clear H1
        replace H := Option.bind_eq_some_iff.mp H
        obtain ⟨t127, A360, H⟩ := H
        replace H : (if t127 = true then ((spec_l01In.f ((rd_T100 l1 x7_3).f3) 0 1000).bind fun t128 => (if t128 = true then (spec_ShiftsOK.j4 k3 l1 x7_3 (decide ((((rd_T100 l1 x7_3).f4).length : Int) > 6)) ((rd_T100 l1 x7_3).f0) ((rd_T100 l1 x7_3).f1) ((rd_T100 l1 x7_3).f2) ((rd_T100 l1 x7_3).f3) ((rd_T100 l1 x7_3).f4)) else (spec_ShiftsOK.j4 k3 l1 x7_3 true ((rd_T100 l1 x7_3).f0) ((rd_T100 l1 x7_3).f1) ((rd_T100 l1 x7_3).f2) ((rd_T100 l1 x7_3).f3) ((rd_T100 l1 x7_3).f4)))) else (spec_ShiftsOK.j4 k3 l1 x7_3 true ((rd_T100 l1 x7_3).f0) ((rd_T100 l1 x7_3).f1) ((rd_T100 l1 x7_3).f2) ((rd_T100 l1 x7_3).f3) ((rd_T100 l1 x7_3).f4))) = some r := H
        have A36 := zb A360
        clear A360
        by_cases c37 : t127 = true
        rotate_left
        ·replace c37 := Bool.eq_false_iff.mpr c37
         subst c37
         have H1 : (spec_ShiftsOK.j4 k3 l1 x7_3 true ((rd_T100 l1 x7_3).f0) ((rd_T100 l1 x7_3).f1) ((rd_T100 l1 x7_3).f2) ((rd_T100 l1 x7_3).f3) ((rd_T100 l1 x7_3).f4)) = some r := by rw [if_neg (show ¬ (false = true) by decide)] at H; exact H
         clear H
         have H := H1
         clear H1
         have H' := zb H
         clear H
         have hcz42_0 : w30.cell? ⟨gb124, 0, none⟩ = some (.string (⟨#[]⟩ : ByteArray)) := (zg BK124.out 0).trans rfl
         have hcz42_1 : w30.cell? ⟨gb124, 1, none⟩ = some (.int .i64 0) := (zg BK124.out 1).trans rfl
         have hcz42_2 : w30.cell? ⟨gb124, 2, none⟩ = some (.int .i64 0) := (zg BK124.out 2).trans rfl
         have hcz42_3 : w30.cell? ⟨gb124, 3, none⟩ = some (.int .i64 0) := (zg BK124.out 3).trans rfl
         have hcz42_4 : w30.cell? ⟨gb124, 4, none⟩ = some (.slice none 0 0) := (zg BK124.out 4).trans rfl
         have hfz42_0 := zf BK124.out 0
         have hfz42_1 := zf BK124.out 1
         have hfz42_2 := zf BK124.out 2
         have hfz42_3 := zf BK124.out 3
         have hfz42_4 := zf BK124.out 4
         go_wp2_with (first | (go_at_call 69; (with_reducible refine (spec_NameOK.calls k3 ((rd_T100 l1 x7_3).f0) true _ A32.out).mono ?_); rintro e w' ⟨rfl, ⟨nd, rfl⟩⟩; (try first | exact ⟨rfl, _, World.drewN_drewN _ _ _⟩ | exact ⟨rfl, _, Eq.trans (World.drewN_drewN _ _ _) (congrArg (World.drewN _) (Nat.add_assoc _ _ _))⟩)) | (go_at_call 37; (with_reducible refine (spec_l01In.calls ((rd_T100 l1 x7_3).f1) 0 10080 true _ A34.out).mono ?_); rintro e w' ⟨rfl, ⟨nd, rfl⟩⟩; (try first | exact ⟨rfl, _, World.drewN_drewN _ _ _⟩ | exact ⟨rfl, _, Eq.trans (World.drewN_drewN _ _ _) (congrArg (World.drewN _) (Nat.add_assoc _ _ _))⟩)) | (go_at_call 37; (with_reducible refine (spec_l01In.calls ((rd_T100 l1 x7_3).f2) 0 10080 false _ A36.out).mono ?_); rintro e w' ⟨rfl, ⟨nd, rfl⟩⟩; (try first | exact ⟨rfl, _, World.drewN_drewN _ _ _⟩ | exact ⟨rfl, _, Eq.trans (World.drewN_drewN _ _ _) (congrArg (World.drewN _) (Nat.add_assoc _ _ _))⟩)))
         repeat (go_quiet (first | (go_at_call 69; (with_reducible refine (spec_NameOK.calls k3 ((rd_T100 l1 x7_3).f0) true _ A32.out).mono ?_); rintro e w' ⟨rfl, ⟨nd, rfl⟩⟩; (try first | exact ⟨rfl, _, World.drewN_drewN _ _ _⟩ | exact ⟨rfl, _, Eq.trans (World.drewN_drewN _ _ _) (congrArg (World.drewN _) (Nat.add_assoc _ _ _))⟩)) | (go_at_call 37; (with_reducible refine (spec_l01In.calls ((rd_T100 l1 x7_3).f1) 0 10080 true _ A34.out).mono ?_); rintro e w' ⟨rfl, ⟨nd, rfl⟩⟩; (try first | exact ⟨rfl, _, World.drewN_drewN _ _ _⟩ | exact ⟨rfl, _, Eq.trans (World.drewN_drewN _ _ _) (congrArg (World.drewN _) (Nat.add_assoc _ _ _))⟩)) | (go_at_call 37; (with_reducible refine (spec_l01In.calls ((rd_T100 l1 x7_3).f2) 0 10080 false _ A36.out).mono ?_); rintro e w' ⟨rfl, ⟨nd, rfl⟩⟩; (try first | exact ⟨rfl, _, World.drewN_drewN _ _ _⟩ | exact ⟨rfl, _, Eq.trans (World.drewN_drewN _ _ _) (congrArg (World.drewN _) (Nat.add_assoc _ _ _))⟩))); try go_wp2_with (first | (go_at_call 69; (with_reducible refine (spec_NameOK.calls k3 ((rd_T100 l1 x7_3).f0) true _ A32.out).mono ?_); rintro e w' ⟨rfl, ⟨nd, rfl⟩⟩; (try first | exact ⟨rfl, _, World.drewN_drewN _ _ _⟩ | exact ⟨rfl, _, Eq.trans (World.drewN_drewN _ _ _) (congrArg (World.drewN _) (Nat.add_assoc _ _ _))⟩)) | (go_at_call 37; (with_reducible refine (spec_l01In.calls ((rd_T100 l1 x7_3).f1) 0 10080 true _ A34.out).mono ?_); rintro e w' ⟨rfl, ⟨nd, rfl⟩⟩; (try first | exact ⟨rfl, _, World.drewN_drewN _ _ _⟩ | exact ⟨rfl, _, Eq.trans (World.drewN_drewN _ _ _) (congrArg (World.drewN _) (Nat.add_assoc _ _ _))⟩)) | (go_at_call 37; (with_reducible refine (spec_l01In.calls ((rd_T100 l1 x7_3).f2) 0 10080 false _ A36.out).mono ?_); rintro e w' ⟨rfl, ⟨nd, rfl⟩⟩; (try first | exact ⟨rfl, _, World.drewN_drewN _ _ _⟩ | exact ⟨rfl, _, Eq.trans (World.drewN_drewN _ _ _) (congrArg (World.drewN _) (Nat.add_assoc _ _ _))⟩))))
         go_meet
         case rel => exact ⟨_, (true), zG95, H', ⟨zH90⟩, ⟨zH0⟩, ⟨zH60⟩⟩
        subst c37
        have H1 : ((spec_l01In.f ((rd_T100 l1 x7_3).f3) 0 1000).bind fun t128 => (if t128 = true then (spec_ShiftsOK.j4 k3 l1 x7_3 (decide ((((rd_T100 l1 x7_3).f4).length : Int) > 6)) ((rd_T100 l1 x7_3).f0) ((rd_T100 l1 x7_3).f1) ((rd_T100 l1 x7_3).f2) ((rd_T100 l1 x7_3).f3) ((rd_T100 l1 x7_3).f4)) else (spec_ShiftsOK.j4 k3 l1 x7_3 true ((rd_T100 l1 x7_3).f0) ((rd_T100 l1 x7_3).f1) ((rd_T100 l1 x7_3).f2) ((rd_T100 l1 x7_3).f3) ((rd_T100 l1 x7_3).f4)))) = some r := by rw [if_pos rfl] at H; exact H
        clear H
        have H := H1
        clear H1
        replace H := Option.bind_eq_some_iff.mp H
        obtain ⟨t128, A380, H⟩ := H
        replace H : (if t128 = true then (spec_ShiftsOK.j4 k3 l1 x7_3 (decide ((((rd_T100 l1 x7_3).f4).length : Int) > 6)) ((rd_T100 l1 x7_3).f0) ((rd_T100 l1 x7_3).f1) ((rd_T100 l1 x7_3).f2) ((rd_T100 l1 x7_3).f3) ((rd_T100 l1 x7_3).f4)) else (spec_ShiftsOK.j4 k3 l1 x7_3 true ((rd_T100 l1 x7_3).f0) ((rd_T100 l1 x7_3).f1) ((rd_T100 l1 x7_3).f2) ((rd_T100 l1 x7_3).f3) ((rd_T100 l1 x7_3).f4))) = some r := H
        have A38 := zb A380
        clear A380
        by_cases c39 : t128 = true
        ·subst c39
         have H1 : (spec_ShiftsOK.j4 k3 l1 x7_3 (decide ((((rd_T100 l1 x7_3).f4).length : Int) > 6)) ((rd_T100 l1 x7_3).f0) ((rd_T100 l1 x7_3).f1) ((rd_T100 l1 x7_3).f2) ((rd_T100 l1 x7_3).f3) ((rd_T100 l1 x7_3).f4)) = some r := by rw [if_pos rfl] at H; exact H
         clear H
         have H := H1
         clear H1
         have H' := zb H
         clear H
         have hcz40_0 : w30.cell? ⟨gb124, 0, none⟩ = some (.string (⟨#[]⟩ : ByteArray)) := (zg BK124.out 0).trans rfl
         have hcz40_1 : w30.cell? ⟨gb124, 1, none⟩ = some (.int .i64 0) := (zg BK124.out 1).trans rfl
         have hcz40_2 : w30.cell? ⟨gb124, 2, none⟩ = some (.int .i64 0) := (zg BK124.out 2).trans rfl
         have hcz40_3 : w30.cell? ⟨gb124, 3, none⟩ = some (.int .i64 0) := (zg BK124.out 3).trans rfl
         have hcz40_4 : w30.cell? ⟨gb124, 4, none⟩ = some (.slice none 0 0) := (zg BK124.out 4).trans rfl
         have hfz40_0 := zf BK124.out 0
         have hfz40_1 := zf BK124.out 1
         have hfz40_2 := zf BK124.out 2
         have hfz40_3 := zf BK124.out 3
         have hfz40_4 := zf BK124.out 4
         go_wp2_with (first | (go_at_call 69; (with_reducible refine (spec_NameOK.calls k3 ((rd_T100 l1 x7_3).f0) true _ A32.out).mono ?_); rintro e w' ⟨rfl, ⟨nd, rfl⟩⟩; (try first | exact ⟨rfl, _, World.drewN_drewN _ _ _⟩ | exact ⟨rfl, _, Eq.trans (World.drewN_drewN _ _ _) (congrArg (World.drewN _) (Nat.add_assoc _ _ _))⟩)) | (go_at_call 37; (with_reducible refine (spec_l01In.calls ((rd_T100 l1 x7_3).f1) 0 10080 true _ A34.out).mono ?_); rintro e w' ⟨rfl, ⟨nd, rfl⟩⟩; (try first | exact ⟨rfl, _, World.drewN_drewN _ _ _⟩ | exact ⟨rfl, _, Eq.trans (World.drewN_drewN _ _ _) (congrArg (World.drewN _) (Nat.add_assoc _ _ _))⟩)) | (go_at_call 37; (with_reducible refine (spec_l01In.calls ((rd_T100 l1 x7_3).f2) 0 10080 true _ A36.out).mono ?_); rintro e w' ⟨rfl, ⟨nd, rfl⟩⟩; (try first | exact ⟨rfl, _, World.drewN_drewN _ _ _⟩ | exact ⟨rfl, _, Eq.trans (World.drewN_drewN _ _ _) (congrArg (World.drewN _) (Nat.add_assoc _ _ _))⟩)) | (go_at_call 37; (with_reducible refine (spec_l01In.calls ((rd_T100 l1 x7_3).f3) 0 1000 true _ A38.out).mono ?_); rintro e w' ⟨rfl, ⟨nd, rfl⟩⟩; (try first | exact ⟨rfl, _, World.drewN_drewN _ _ _⟩ | exact ⟨rfl, _, Eq.trans (World.drewN_drewN _ _ _) (congrArg (World.drewN _) (Nat.add_assoc _ _ _))⟩)))
         repeat (go_quiet (first | (go_at_call 69; (with_reducible refine (spec_NameOK.calls k3 ((rd_T100 l1 x7_3).f0) true _ A32.out).mono ?_); rintro e w' ⟨rfl, ⟨nd, rfl⟩⟩; (try first | exact ⟨rfl, _, World.drewN_drewN _ _ _⟩ | exact ⟨rfl, _, Eq.trans (World.drewN_drewN _ _ _) (congrArg (World.drewN _) (Nat.add_assoc _ _ _))⟩)) | (go_at_call 37; (with_reducible refine (spec_l01In.calls ((rd_T100 l1 x7_3).f1) 0 10080 true _ A34.out).mono ?_); rintro e w' ⟨rfl, ⟨nd, rfl⟩⟩; (try first | exact ⟨rfl, _, World.drewN_drewN _ _ _⟩ | exact ⟨rfl, _, Eq.trans (World.drewN_drewN _ _ _) (congrArg (World.drewN _) (Nat.add_assoc _ _ _))⟩)) | (go_at_call 37; (with_reducible refine (spec_l01In.calls ((rd_T100 l1 x7_3).f2) 0 10080 true _ A36.out).mono ?_); rintro e w' ⟨rfl, ⟨nd, rfl⟩⟩; (try first | exact ⟨rfl, _, World.drewN_drewN _ _ _⟩ | exact ⟨rfl, _, Eq.trans (World.drewN_drewN _ _ _) (congrArg (World.drewN _) (Nat.add_assoc _ _ _))⟩)) | (go_at_call 37; (with_reducible refine (spec_l01In.calls ((rd_T100 l1 x7_3).f3) 0 1000 true _ A38.out).mono ?_); rintro e w' ⟨rfl, ⟨nd, rfl⟩⟩; (try first | exact ⟨rfl, _, World.drewN_drewN _ _ _⟩ | exact ⟨rfl, _, Eq.trans (World.drewN_drewN _ _ _) (congrArg (World.drewN _) (Nat.add_assoc _ _ _))⟩))); try go_wp2_with (first | (go_at_call 69; (with_reducible refine (spec_NameOK.calls k3 ((rd_T100 l1 x7_3).f0) true _ A32.out).mono ?_); rintro e w' ⟨rfl, ⟨nd, rfl⟩⟩; (try first | exact ⟨rfl, _, World.drewN_drewN _ _ _⟩ | exact ⟨rfl, _, Eq.trans (World.drewN_drewN _ _ _) (congrArg (World.drewN _) (Nat.add_assoc _ _ _))⟩)) | (go_at_call 37; (with_reducible refine (spec_l01In.calls ((rd_T100 l1 x7_3).f1) 0 10080 true _ A34.out).mono ?_); rintro e w' ⟨rfl, ⟨nd, rfl⟩⟩; (try first | exact ⟨rfl, _, World.drewN_drewN _ _ _⟩ | exact ⟨rfl, _, Eq.trans (World.drewN_drewN _ _ _) (congrArg (World.drewN _) (Nat.add_assoc _ _ _))⟩)) | (go_at_call 37; (with_reducible refine (spec_l01In.calls ((rd_T100 l1 x7_3).f2) 0 10080 true _ A36.out).mono ?_); rintro e w' ⟨rfl, ⟨nd, rfl⟩⟩; (try first | exact ⟨rfl, _, World.drewN_drewN _ _ _⟩ | exact ⟨rfl, _, Eq.trans (World.drewN_drewN _ _ _) (congrArg (World.drewN _) (Nat.add_assoc _ _ _))⟩)) | (go_at_call 37; (with_reducible refine (spec_l01In.calls ((rd_T100 l1 x7_3).f3) 0 1000 true _ A38.out).mono ?_); rintro e w' ⟨rfl, ⟨nd, rfl⟩⟩; (try first | exact ⟨rfl, _, World.drewN_drewN _ _ _⟩ | exact ⟨rfl, _, Eq.trans (World.drewN_drewN _ _ _) (congrArg (World.drewN _) (Nat.add_assoc _ _ _))⟩))))
         go_meet
         case rel => exact ⟨_, (decide ((((rd_T100 l1 x7_3).f4).length : Int) > 6)), zG95, H', ⟨zH90⟩, ⟨zH0⟩, ⟨zH60⟩⟩
        replace c39 := Bool.eq_false_iff.mpr c39
        subst c39
        have H1 : (spec_ShiftsOK.j4 k3 l1 x7_3 true ((rd_T100 l1 x7_3).f0) ((rd_T100 l1 x7_3).f1) ((rd_T100 l1 x7_3).f2) ((rd_T100 l1 x7_3).f3) ((rd_T100 l1 x7_3).f4)) = some r := by rw [if_neg (show ¬ (false = true) by decide)] at H; exact H
        clear H
        have H := H1
        clear H1
        have H' := zb H
        clear H
        have hcz41_0 : w30.cell? ⟨gb124, 0, none⟩ = some (.string (⟨#[]⟩ : ByteArray)) := (zg BK124.out 0).trans rfl
        have hcz41_1 : w30.cell? ⟨gb124, 1, none⟩ = some (.int .i64 0) := (zg BK124.out 1).trans rfl
        have hcz41_2 : w30.cell? ⟨gb124, 2, none⟩ = some (.int .i64 0) := (zg BK124.out 2).trans rfl
        have hcz41_3 : w30.cell? ⟨gb124, 3, none⟩ = some (.int .i64 0) := (zg BK124.out 3).trans rfl
        have hcz41_4 : w30.cell? ⟨gb124, 4, none⟩ = some (.slice none 0 0) := (zg BK124.out 4).trans rfl
        have hfz41_0 := zf BK124.out 0
        have hfz41_1 := zf BK124.out 1
        have hfz41_2 := zf BK124.out 2
        have hfz41_3 := zf BK124.out 3
        have hfz41_4 := zf BK124.out 4
        go_wp2_with (first | (go_at_call 69; (with_reducible refine (spec_NameOK.calls k3 ((rd_T100 l1 x7_3).f0) true _ A32.out).mono ?_); rintro e w' ⟨rfl, ⟨nd, rfl⟩⟩; (try first | exact ⟨rfl, _, World.drewN_drewN _ _ _⟩ | exact ⟨rfl, _, Eq.trans (World.drewN_drewN _ _ _) (congrArg (World.drewN _) (Nat.add_assoc _ _ _))⟩)) | (go_at_call 37; (with_reducible refine (spec_l01In.calls ((rd_T100 l1 x7_3).f1) 0 10080 true _ A34.out).mono ?_); rintro e w' ⟨rfl, ⟨nd, rfl⟩⟩; (try first | exact ⟨rfl, _, World.drewN_drewN _ _ _⟩ | exact ⟨rfl, _, Eq.trans (World.drewN_drewN _ _ _) (congrArg (World.drewN _) (Nat.add_assoc _ _ _))⟩)) | (go_at_call 37; (with_reducible refine (spec_l01In.calls ((rd_T100 l1 x7_3).f2) 0 10080 true _ A36.out).mono ?_); rintro e w' ⟨rfl, ⟨nd, rfl⟩⟩; (try first | exact ⟨rfl, _, World.drewN_drewN _ _ _⟩ | exact ⟨rfl, _, Eq.trans (World.drewN_drewN _ _ _) (congrArg (World.drewN _) (Nat.add_assoc _ _ _))⟩)) | (go_at_call 37; (with_reducible refine (spec_l01In.calls ((rd_T100 l1 x7_3).f3) 0 1000 false _ A38.out).mono ?_); rintro e w' ⟨rfl, ⟨nd, rfl⟩⟩; (try first | exact ⟨rfl, _, World.drewN_drewN _ _ _⟩ | exact ⟨rfl, _, Eq.trans (World.drewN_drewN _ _ _) (congrArg (World.drewN _) (Nat.add_assoc _ _ _))⟩)))
        repeat (go_quiet (first | (go_at_call 69; (with_reducible refine (spec_NameOK.calls k3 ((rd_T100 l1 x7_3).f0) true _ A32.out).mono ?_); rintro e w' ⟨rfl, ⟨nd, rfl⟩⟩; (try first | exact ⟨rfl, _, World.drewN_drewN _ _ _⟩ | exact ⟨rfl, _, Eq.trans (World.drewN_drewN _ _ _) (congrArg (World.drewN _) (Nat.add_assoc _ _ _))⟩)) | (go_at_call 37; (with_reducible refine (spec_l01In.calls ((rd_T100 l1 x7_3).f1) 0 10080 true _ A34.out).mono ?_); rintro e w' ⟨rfl, ⟨nd, rfl⟩⟩; (try first | exact ⟨rfl, _, World.drewN_drewN _ _ _⟩ | exact ⟨rfl, _, Eq.trans (World.drewN_drewN _ _ _) (congrArg (World.drewN _) (Nat.add_assoc _ _ _))⟩)) | (go_at_call 37; (with_reducible refine (spec_l01In.calls ((rd_T100 l1 x7_3).f2) 0 10080 true _ A36.out).mono ?_); rintro e w' ⟨rfl, ⟨nd, rfl⟩⟩; (try first | exact ⟨rfl, _, World.drewN_drewN _ _ _⟩ | exact ⟨rfl, _, Eq.trans (World.drewN_drewN _ _ _) (congrArg (World.drewN _) (Nat.add_assoc _ _ _))⟩)) | (go_at_call 37; (with_reducible refine (spec_l01In.calls ((rd_T100 l1 x7_3).f3) 0 1000 false _ A38.out).mono ?_); rintro e w' ⟨rfl, ⟨nd, rfl⟩⟩; (try first | exact ⟨rfl, _, World.drewN_drewN _ _ _⟩ | exact ⟨rfl, _, Eq.trans (World.drewN_drewN _ _ _) (congrArg (World.drewN _) (Nat.add_assoc _ _ _))⟩))); try go_wp2_with (first | (go_at_call 69; (with_reducible refine (spec_NameOK.calls k3 ((rd_T100 l1 x7_3).f0) true _ A32.out).mono ?_); rintro e w' ⟨rfl, ⟨nd, rfl⟩⟩; (try first | exact ⟨rfl, _, World.drewN_drewN _ _ _⟩ | exact ⟨rfl, _, Eq.trans (World.drewN_drewN _ _ _) (congrArg (World.drewN _) (Nat.add_assoc _ _ _))⟩)) | (go_at_call 37; (with_reducible refine (spec_l01In.calls ((rd_T100 l1 x7_3).f1) 0 10080 true _ A34.out).mono ?_); rintro e w' ⟨rfl, ⟨nd, rfl⟩⟩; (try first | exact ⟨rfl, _, World.drewN_drewN _ _ _⟩ | exact ⟨rfl, _, Eq.trans (World.drewN_drewN _ _ _) (congrArg (World.drewN _) (Nat.add_assoc _ _ _))⟩)) | (go_at_call 37; (with_reducible refine (spec_l01In.calls ((rd_T100 l1 x7_3).f2) 0 10080 true _ A36.out).mono ?_); rintro e w' ⟨rfl, ⟨nd, rfl⟩⟩; (try first | exact ⟨rfl, _, World.drewN_drewN _ _ _⟩ | exact ⟨rfl, _, Eq.trans (World.drewN_drewN _ _ _) (congrArg (World.drewN _) (Nat.add_assoc _ _ _))⟩)) | (go_at_call 37; (with_reducible refine (spec_l01In.calls ((rd_T100 l1 x7_3).f3) 0 1000 false _ A38.out).mono ?_); rintro e w' ⟨rfl, ⟨nd, rfl⟩⟩; (try first | exact ⟨rfl, _, World.drewN_drewN _ _ _⟩ | exact ⟨rfl, _, Eq.trans (World.drewN_drewN _ _ _) (congrArg (World.drewN _) (Nat.add_assoc _ _ _))⟩))))
        go_meet
        case rel => exact ⟨_, (true), zG95, H', ⟨zH90⟩, ⟨zH0⟩, ⟨zH60⟩⟩
       case rest =>
        clear HC29
        try clear c1
        try clear p1
        try clear q1
        try clear hx1
        try clear c2
        try clear p2
        try clear c3
        try clear c4
        try clear c4b0
        try clear c4b1
        try clear c5
        try clear c6
        try clear c6b0
        try clear p6
        try clear c7
        try clear c7b0
        try clear c11
        try clear c11b0
        try clear p11
        try clear q11
        try clear hx11
        try clear c12
        try clear p12
        try clear q12
        try clear hx12
        try clear c13
        try clear c13b0
        try clear c15
        try clear c15b0
        try clear c19
        try clear c20
        try clear c20b0
        try clear c22
        try clear c22b0
        try clear c23
        try clear c23b0
        try clear c24
        try clear c24b0
        try clear c27
        try clear c27b0
        try clear c28
        try clear c28b0
        try clear c33
        try clear c35
        try clear c37
        try clear c39
        try clear hcz10_0
        try clear hcz10_1
        try clear hcz10_2
        try clear hcz12_0
        try clear hcz12_1
        try clear hcz12_2
        try clear hcz14_0
        try clear hcz14_1
        try clear hcz14_2
        try clear hcz16_0
        try clear hcz16_1
        try clear hcz16_2
        try clear hcz18_0
        try clear hcz18_1
        try clear hcz18_2
        try clear hcz25_0
        try clear hcz25_1
        try clear hcz25_2
        try clear hcz26_0
        try clear hcz26_1
        try clear hcz26_2
        try clear hcz31_0
        try clear hcz31_1
        try clear hcz31_2
        try clear hcz31_3
        try clear hcz31_4
        try clear hcz40_0
        try clear hcz40_1
        try clear hcz40_2
        try clear hcz40_3
        try clear hcz40_4
        try clear hcz41_0
        try clear hcz41_1
        try clear hcz41_2
        try clear hcz41_3
        try clear hcz41_4
        try clear hcz42_0
        try clear hcz42_1
        try clear hcz42_2
        try clear hcz42_3
        try clear hcz42_4
        try clear hcz43_0
        try clear hcz43_1
        try clear hcz43_2
        try clear hcz43_3
        try clear hcz43_4
        try clear hcz44_0
        try clear hcz44_1
        try clear hcz44_2
        try clear hcz44_3
        try clear hcz44_4
        try clear hfz10_0
        try clear hfz10_1
        try clear hfz10_2
        try clear hfz12_0
        try clear hfz12_1
        try clear hfz12_2
        try clear hfz14_0
        try clear hfz14_1
        try clear hfz14_2
        try clear hfz16_0
        try clear hfz16_1
        try clear hfz16_2
        try clear hfz18_0
        try clear hfz18_1
        try clear hfz18_2
        try clear hfz25_0
        try clear hfz25_1
        try clear hfz25_2
        try clear hfz26_0
        try clear hfz26_1
        try clear hfz26_2
        try clear hfz31_0
        try clear hfz31_1
        try clear hfz31_2
        try clear hfz31_3
        try clear hfz31_4
        try clear hfz40_0
        try clear hfz40_1
        try clear hfz40_2
        try clear hfz40_3
        try clear hfz40_4
        try clear hfz41_0
        try clear hfz41_1
        try clear hfz41_2
        try clear hfz41_3
        try clear hfz41_4
        try clear hfz42_0
        try clear hfz42_1
        try clear hfz42_2
        try clear hfz42_3
        try clear hfz42_4
        try clear hfz43_0
        try clear hfz43_1
        try clear hfz43_2
        try clear hfz43_3
        try clear hfz43_4
        try clear hfz44_0
        try clear hfz44_1
        try clear hfz44_2
        try clear hfz44_3
        try clear hfz44_4
        try clear hx119_0
        try clear hx119_1
        try clear hx119_2
        try clear hx122_0
        try clear hx122_1
        try clear hx122_2
        try clear hx123_0
        try clear hx123_1
        try clear hx123_2
        try clear hx123_3
        try clear hx123_4
        try clear p1
        try clear p11
        try clear p119
        try clear p12
        try clear p122
        try clear p123
        try clear p2
        try clear p6
        try clear q1
        try clear q11
        try clear q119
        try clear q12
        try clear q122
        try clear q123
        obtain ⟨kq, x100_28, rfl, HA, HJ28, BK124, HB⟩ := hcut
        cases kq with
        | zero => exact absurd HA.out (by simp [spec_ShiftsOK.j4])
        | succ kj28 =>
         have H := HA.out
         clear HA
         simp only [spec_ShiftsOK.j4] at H
         by_cases c45 : x100_28 = true
         ·subst c45
          have H1 : (some false) = some r := by rw [if_pos rfl] at H; exact H
          clear H
          have H := H1
          clear H1
          obtain rfl := Option.some.inj H
          go_wp2
          repeat (go_quiet (fail); try go_wp2)
          go_ret
          exact zH20
         replace c45 := Bool.eq_false_iff.mpr c45
         subst c45
         have H1 : (spec_ShiftsOK.l2 kj28 l1 x7_3 0 ((rd_T100 l1 x7_3).f0) ((rd_T100 l1 x7_3).f1) ((rd_T100 l1 x7_3).f2) ((rd_T100 l1 x7_3).f3) ((rd_T100 l1 x7_3).f4)) = some r := by rw [if_neg (show ¬ (false = true) by decide)] at H; exact H
         clear H
         have H := H1
         clear H1
         have H' := zb H
         clear H
         go_wp2
         repeat (go_quiet (fail); try go_wp2)
         go_loopg [9] kj28 (fun kq v9 w' => ∃ (x9_5 : Int), v9 = .int .i64 x9_5 ∧ Aside0 (spec_ShiftsOK.l2 kq l1 x7_3 x9_5 ((rd_T100 l1 x7_3).f0) ((rd_T100 l1 x7_3).f1) ((rd_T100 l1 x7_3).f2) ((rd_T100 l1 x7_3).f3) ((rd_T100 l1 x7_3).f4) = some r) ∧ Aside0 (kq ≤ kj28) ∧ Aside0 (w'.heap[gb124]? = some (.cells #[.string ((rd_T100 l1 x7_3).f0), .int .i64 ((rd_T100 l1 x7_3).f1), .int .i64 ((rd_T100 l1 x7_3).f2), .int .i64 ((rd_T100 l1 x7_3).f3), (.slice A123_4 ((rd_T100 l1 x7_3).f4).length c123_4)] 100 (0, 0))) ∧ Aside0 (Below w.heap.size w w'))
         case atStart => exact ⟨(0), zG95, H', ⟨Nat.le_refl _⟩, ⟨zH84⟩, ⟨zH60⟩⟩
         case round =>
          clear H'
          try clear c1
          try clear p1
          try clear q1
          try clear hx1
          try clear c2
          try clear p2
          try clear c3
          try clear c4
          try clear c4b0
          try clear c4b1
          try clear c5
          try clear c6
          try clear c6b0
          try clear p6
          try clear c7
          try clear c7b0
          try clear c11
          try clear c11b0
          try clear p11
          try clear q11
          try clear hx11
          try clear c12
          try clear p12
          try clear q12
          try clear hx12
          try clear c13
          try clear c13b0
          try clear c15
          try clear c15b0
          try clear c19
          try clear c20
          try clear c20b0
          try clear c22
          try clear c22b0
          try clear c23
          try clear c23b0
          try clear c24
          try clear c24b0
          try clear c27
          try clear c27b0
          try clear c28
          try clear c28b0
          try clear c33
          try clear c35
          try clear c37
          try clear c39
          try clear c45
          try clear hcz10_0
          try clear hcz10_1
          try clear hcz10_2
          try clear hcz12_0
          try clear hcz12_1
          try clear hcz12_2
          try clear hcz14_0
          try clear hcz14_1
          try clear hcz14_2
          try clear hcz16_0
          try clear hcz16_1
          try clear hcz16_2
          try clear hcz18_0
          try clear hcz18_1
          try clear hcz18_2
          try clear hcz25_0
          try clear hcz25_1
          try clear hcz25_2
          try clear hcz26_0
          try clear hcz26_1
          try clear hcz26_2
          try clear hcz31_0
          try clear hcz31_1
          try clear hcz31_2
          try clear hcz31_3
          try clear hcz31_4
          try clear hcz40_0
          try clear hcz40_1
          try clear hcz40_2
          try clear hcz40_3
          try clear hcz40_4
          try clear hcz41_0
          try clear hcz41_1
          try clear hcz41_2
          try clear hcz41_3
          try clear hcz41_4
          try clear hcz42_0
          try clear hcz42_1
          try clear hcz42_2
          try clear hcz42_3
          try clear hcz42_4
          try clear hcz43_0
          try clear hcz43_1
          try clear hcz43_2
          try clear hcz43_3
          try clear hcz43_4
          try clear hcz44_0
          try clear hcz44_1
          try clear hcz44_2
          try clear hcz44_3
          try clear hcz44_4
          try clear hfz10_0
          try clear hfz10_1
          try clear hfz10_2
          try clear hfz12_0
          try clear hfz12_1
          try clear hfz12_2
          try clear hfz14_0
          try clear hfz14_1
          try clear hfz14_2
          try clear hfz16_0
          try clear hfz16_1
          try clear hfz16_2
          try clear hfz18_0
          try clear hfz18_1
          try clear hfz18_2
          try clear hfz25_0
          try clear hfz25_1
          try clear hfz25_2
          try clear hfz26_0
          try clear hfz26_1
          try clear hfz26_2
          try clear hfz31_0
          try clear hfz31_1
          try clear hfz31_2
          try clear hfz31_3
          try clear hfz31_4
          try clear hfz40_0
          try clear hfz40_1
          try clear hfz40_2
          try clear hfz40_3
          try clear hfz40_4
          try clear hfz41_0
          try clear hfz41_1
          try clear hfz41_2
          try clear hfz41_3
          try clear hfz41_4
          try clear hfz42_0
          try clear hfz42_1
          try clear hfz42_2
          try clear hfz42_3
          try clear hfz42_4
          try clear hfz43_0
          try clear hfz43_1
          try clear hfz43_2
          try clear hfz43_3
          try clear hfz43_4
          try clear hfz44_0
          try clear hfz44_1
          try clear hfz44_2
          try clear hfz44_3
          try clear hfz44_4
          try clear hx119_0
          try clear hx119_1
          try clear hx119_2
          try clear hx122_0
          try clear hx122_1
          try clear hx122_2
          try clear hx123_0
          try clear hx123_1
          try clear hx123_2
          try clear hx123_3
          try clear hx123_4
          try clear p1
          try clear p11
          try clear p119
          try clear p12
          try clear p122
          try clear p123
          try clear p2
          try clear p6
          try clear q1
          try clear q11
          try clear q119
          try clear q12
          try clear q122
          try clear q123
          obtain ⟨x9_5, rfl, HA, HK5, BK124, HB⟩ := hrel
          cases gk with
          | zero => exact absurd HA.out (by simp [spec_ShiftsOK.l2])
          | succ k5 =>
           have H := HA.out
           clear HA
           simp only [spec_ShiftsOK.l2] at H
           by_cases c46 : x9_5 < (((rd_T100 l1 x7_3).f4).length : Int)
           ·rw [if_pos c46] at H
            have c46b0 := decide_eq_true c46
            clear c46
            by_cases c47 : 0 ≤ x9_5
            rotate_left
            ·rw [if_neg c47] at H
             exact absurd H (by simp)
            rw [if_pos c47] at H
            have c47b0 := decide_eq_true c47
            clear c47
            replace H := Option.bind_eq_some_iff.mp H
            obtain ⟨t130, A480, H⟩ := H
            replace H : (if t130 = true then (spec_ShiftsOK.l2 k5 l1 x7_3 (wrap64 (x9_5 + 1)) ((rd_T100 l1 x7_3).f0) ((rd_T100 l1 x7_3).f1) ((rd_T100 l1 x7_3).f2) ((rd_T100 l1 x7_3).f3) ((rd_T100 l1 x7_3).f4)) else (some false)) = some r := H
            have A48 := zb A480
            clear A480
            by_cases c49 : t130 = true
            rotate_left
            ·replace c49 := Bool.eq_false_iff.mpr c49
             subst c49
             have H1 : (some false) = some r := by rw [if_neg (show ¬ (false = true) by decide)] at H; exact H
             clear H
             have H := H1
             clear H1
             obtain rfl := Option.some.inj H
             have hcz51_0 : wr.cell? ⟨gb124, 0, none⟩ = some (.string ((rd_T100 l1 x7_3).f0)) := (zg BK124.out 0).trans rfl
             have hcz51_1 : wr.cell? ⟨gb124, 1, none⟩ = some (.int .i64 ((rd_T100 l1 x7_3).f1)) := (zg BK124.out 1).trans rfl
             have hcz51_2 : wr.cell? ⟨gb124, 2, none⟩ = some (.int .i64 ((rd_T100 l1 x7_3).f2)) := (zg BK124.out 2).trans rfl
             have hcz51_3 : wr.cell? ⟨gb124, 3, none⟩ = some (.int .i64 ((rd_T100 l1 x7_3).f3)) := (zg BK124.out 3).trans rfl
             have hcz51_4 : wr.cell? ⟨gb124, 4, none⟩ = some (.slice A123_4 ((rd_T100 l1 x7_3).f4).length c123_4) := (zg BK124.out 4).trans rfl
             have hfz51_0 := zf BK124.out 0
             have hfz51_1 := zf BK124.out 1
             have hfz51_2 := zf BK124.out 2
             have hfz51_3 := zf BK124.out 3
             have hfz51_4 := zf BK124.out 4
             have p129 : 0 ≤ (x9_5 : Int) := zO
             have q129 : x9_5 < (((rd_T100 l1 x7_3).f4).length : Int) := zO
             obtain ⟨ad129, e129, hx129_0⟩ := zam HR123_4.out x9_5 p129 q129
             cases e129
             replace hx129_0 := (HB.out.cell (za w _ hx129_0)).trans hx129_0
             replace p129 := eq_true p129
             replace q129 := eq_true q129
             go_wp2_with (first | (go_at_call 69; (with_reducible refine (spec_NameOK.calls k5 (rdOf ByteArray.empty ((rd_T100 l1 x7_3).f4) x9_5) false _ A48.out).mono ?_); rintro e w' ⟨rfl, ⟨nd, rfl⟩⟩; (try first | exact ⟨rfl, _, World.drewN_drewN _ _ _⟩ | exact ⟨rfl, _, Eq.trans (World.drewN_drewN _ _ _) (congrArg (World.drewN _) (Nat.add_assoc _ _ _))⟩)))
             repeat (go_quiet (first | (go_at_call 69; (with_reducible refine (spec_NameOK.calls k5 (rdOf ByteArray.empty ((rd_T100 l1 x7_3).f4) x9_5) false _ A48.out).mono ?_); rintro e w' ⟨rfl, ⟨nd, rfl⟩⟩; (try first | exact ⟨rfl, _, World.drewN_drewN _ _ _⟩ | exact ⟨rfl, _, Eq.trans (World.drewN_drewN _ _ _) (congrArg (World.drewN _) (Nat.add_assoc _ _ _))⟩))); try go_wp2_with (first | (go_at_call 69; (with_reducible refine (spec_NameOK.calls k5 (rdOf ByteArray.empty ((rd_T100 l1 x7_3).f4) x9_5) false _ A48.out).mono ?_); rintro e w' ⟨rfl, ⟨nd, rfl⟩⟩; (try first | exact ⟨rfl, _, World.drewN_drewN _ _ _⟩ | exact ⟨rfl, _, Eq.trans (World.drewN_drewN _ _ _) (congrArg (World.drewN _) (Nat.add_assoc _ _ _))⟩))))
             go_ret
             exact zH20
            subst c49
            have H1 : (spec_ShiftsOK.l2 k5 l1 x7_3 (wrap64 (x9_5 + 1)) ((rd_T100 l1 x7_3).f0) ((rd_T100 l1 x7_3).f1) ((rd_T100 l1 x7_3).f2) ((rd_T100 l1 x7_3).f3) ((rd_T100 l1 x7_3).f4)) = some r := by rw [if_pos rfl] at H; exact H
            clear H
            have H := H1
            clear H1
            have H' := zb H
            clear H
            have hcz50_0 : wr.cell? ⟨gb124, 0, none⟩ = some (.string ((rd_T100 l1 x7_3).f0)) := (zg BK124.out 0).trans rfl
            have hcz50_1 : wr.cell? ⟨gb124, 1, none⟩ = some (.int .i64 ((rd_T100 l1 x7_3).f1)) := (zg BK124.out 1).trans rfl
            have hcz50_2 : wr.cell? ⟨gb124, 2, none⟩ = some (.int .i64 ((rd_T100 l1 x7_3).f2)) := (zg BK124.out 2).trans rfl
            have hcz50_3 : wr.cell? ⟨gb124, 3, none⟩ = some (.int .i64 ((rd_T100 l1 x7_3).f3)) := (zg BK124.out 3).trans rfl
            have hcz50_4 : wr.cell? ⟨gb124, 4, none⟩ = some (.slice A123_4 ((rd_T100 l1 x7_3).f4).length c123_4) := (zg BK124.out 4).trans rfl
            have hfz50_0 := zf BK124.out 0
            have hfz50_1 := zf BK124.out 1
            have hfz50_2 := zf BK124.out 2
            have hfz50_3 := zf BK124.out 3
            have hfz50_4 := zf BK124.out 4
            have p129 : 0 ≤ (x9_5 : Int) := zO
            have q129 : x9_5 < (((rd_T100 l1 x7_3).f4).length : Int) := zO
            obtain ⟨ad129, e129, hx129_0⟩ := zam HR123_4.out x9_5 p129 q129
            cases e129
            replace hx129_0 := (HB.out.cell (za w _ hx129_0)).trans hx129_0
            replace p129 := eq_true p129
            replace q129 := eq_true q129
            go_wp2_with (first | (go_at_call 69; (with_reducible refine (spec_NameOK.calls k5 (rdOf ByteArray.empty ((rd_T100 l1 x7_3).f4) x9_5) true _ A48.out).mono ?_); rintro e w' ⟨rfl, ⟨nd, rfl⟩⟩; (try first | exact ⟨rfl, _, World.drewN_drewN _ _ _⟩ | exact ⟨rfl, _, Eq.trans (World.drewN_drewN _ _ _) (congrArg (World.drewN _) (Nat.add_assoc _ _ _))⟩)))
            repeat (go_quiet (first | (go_at_call 69; (with_reducible refine (spec_NameOK.calls k5 (rdOf ByteArray.empty ((rd_T100 l1 x7_3).f4) x9_5) true _ A48.out).mono ?_); rintro e w' ⟨rfl, ⟨nd, rfl⟩⟩; (try first | exact ⟨rfl, _, World.drewN_drewN _ _ _⟩ | exact ⟨rfl, _, Eq.trans (World.drewN_drewN _ _ _) (congrArg (World.drewN _) (Nat.add_assoc _ _ _))⟩))); try go_wp2_with (first | (go_at_call 69; (with_reducible refine (spec_NameOK.calls k5 (rdOf ByteArray.empty ((rd_T100 l1 x7_3).f4) x9_5) true _ A48.out).mono ?_); rintro e w' ⟨rfl, ⟨nd, rfl⟩⟩; (try first | exact ⟨rfl, _, World.drewN_drewN _ _ _⟩ | exact ⟨rfl, _, Eq.trans (World.drewN_drewN _ _ _) (congrArg (World.drewN _) (Nat.add_assoc _ _ _))⟩))))
            go_roundg k5
            case measure => have := HJ2.out; have := HK2.out; have := HK3.out; have := HJ28.out; have := HK5.out; omega
            case rel => exact ⟨(wrap64 (x9_5 + 1)), zG95, H', ⟨by have := HJ2.out; have := HK2.out; have := HK3.out; have := HJ28.out; have := HK5.out; omega⟩, ⟨zH84⟩, ⟨zH60⟩⟩
           rw [if_neg c46] at H
           have c46b0 := decide_eq_false c46
           clear c46
           have H' := zb H
           clear H
           have hcz52_0 : wr.cell? ⟨gb124, 0, none⟩ = some (.string ((rd_T100 l1 x7_3).f0)) := (zg BK124.out 0).trans rfl
           have hcz52_1 : wr.cell? ⟨gb124, 1, none⟩ = some (.int .i64 ((rd_T100 l1 x7_3).f1)) := (zg BK124.out 1).trans rfl
           have hcz52_2 : wr.cell? ⟨gb124, 2, none⟩ = some (.int .i64 ((rd_T100 l1 x7_3).f2)) := (zg BK124.out 2).trans rfl
           have hcz52_3 : wr.cell? ⟨gb124, 3, none⟩ = some (.int .i64 ((rd_T100 l1 x7_3).f3)) := (zg BK124.out 3).trans rfl
           have hcz52_4 : wr.cell? ⟨gb124, 4, none⟩ = some (.slice A123_4 ((rd_T100 l1 x7_3).f4).length c123_4) := (zg BK124.out 4).trans rfl
           have hfz52_0 := zf BK124.out 0
           have hfz52_1 := zf BK124.out 1
           have hfz52_2 := zf BK124.out 2
           have hfz52_3 := zf BK124.out 3
           have hfz52_4 := zf BK124.out 4
           go_wp2
           repeat (go_quiet (fail); try go_wp2)
           go_loopg [10] k5 (fun kq v10 w' => ∃ (x10_6 : Int), v10 = .int .i64 x10_6 ∧ Aside0 (spec_ShiftsOK.l3 kq l1 x7_3 x10_6 ((rd_T100 l1 x7_3).f0) ((rd_T100 l1 x7_3).f1) ((rd_T100 l1 x7_3).f2) ((rd_T100 l1 x7_3).f3) ((rd_T100 l1 x7_3).f4) = some r) ∧ Aside0 (kq ≤ k5) ∧ Aside0 (w'.heap[gb124]? = some (.cells #[.string ((rd_T100 l1 x7_3).f0), .int .i64 ((rd_T100 l1 x7_3).f1), .int .i64 ((rd_T100 l1 x7_3).f2), .int .i64 ((rd_T100 l1 x7_3).f3), (.slice A123_4 ((rd_T100 l1 x7_3).f4).length c123_4)] 100 (0, 0))) ∧ Aside0 (Below w.heap.size w w'))
           case atStart => exact ⟨(0), zG95, H', ⟨Nat.le_refl _⟩, ⟨zH84⟩, ⟨zH60⟩⟩
           case round =>
            clear H'
            try clear c1
            try clear p1
            try clear q1
            try clear hx1
            try clear c2
            try clear p2
            try clear c3
            try clear c4
            try clear c4b0
            try clear c4b1
            try clear c5
            try clear c6
            try clear c6b0
            try clear p6
            try clear c7
            try clear c7b0
            try clear c11
            try clear c11b0
            try clear p11
            try clear q11
            try clear hx11
            try clear c12
            try clear p12
            try clear q12
            try clear hx12
            try clear c13
            try clear c13b0
            try clear c15
            try clear c15b0
            try clear c19
            try clear c20
            try clear c20b0
            try clear c22
            try clear c22b0
            try clear c23
            try clear c23b0
            try clear c24
            try clear c24b0
            try clear c27
            try clear c27b0
            try clear c28
            try clear c28b0
            try clear c33
            try clear c35
            try clear c37
            try clear c39
            try clear c45
            try clear c46
            try clear c46b0
            try clear c47
            try clear c47b0
            try clear c49
            try clear hcz10_0
            try clear hcz10_1
            try clear hcz10_2
            try clear hcz12_0
            try clear hcz12_1
            try clear hcz12_2
            try clear hcz14_0
            try clear hcz14_1
            try clear hcz14_2
            try clear hcz16_0
            try clear hcz16_1
            try clear hcz16_2
            try clear hcz18_0
            try clear hcz18_1
            try clear hcz18_2
            try clear hcz25_0
            try clear hcz25_1
            try clear hcz25_2
            try clear hcz26_0
            try clear hcz26_1
            try clear hcz26_2
            try clear hcz31_0
            try clear hcz31_1
            try clear hcz31_2
            try clear hcz31_3
            try clear hcz31_4
            try clear hcz40_0
            try clear hcz40_1
            try clear hcz40_2
            try clear hcz40_3
            try clear hcz40_4
            try clear hcz41_0
            try clear hcz41_1
            try clear hcz41_2
            try clear hcz41_3
            try clear hcz41_4
            try clear hcz42_0
            try clear hcz42_1
            try clear hcz42_2
            try clear hcz42_3
            try clear hcz42_4
            try clear hcz43_0
            try clear hcz43_1
            try clear hcz43_2
            try clear hcz43_3
            try clear hcz43_4
            try clear hcz44_0
            try clear hcz44_1
            try clear hcz44_2
            try clear hcz44_3
            try clear hcz44_4
            try clear hcz50_0
            try clear hcz50_1
            try clear hcz50_2
            try clear hcz50_3
            try clear hcz50_4
            try clear hcz51_0
            try clear hcz51_1
            try clear hcz51_2
            try clear hcz51_3
            try clear hcz51_4
            try clear hcz52_0
            try clear hcz52_1
            try clear hcz52_2
            try clear hcz52_3
            try clear hcz52_4
            try clear hfz10_0
            try clear hfz10_1
            try clear hfz10_2
            try clear hfz12_0
            try clear hfz12_1
            try clear hfz12_2
            try clear hfz14_0
            try clear hfz14_1
            try clear hfz14_2
            try clear hfz16_0
            try clear hfz16_1
            try clear hfz16_2
            try clear hfz18_0
            try clear hfz18_1
            try clear hfz18_2
            try clear hfz25_0
            try clear hfz25_1
            try clear hfz25_2
            try clear hfz26_0
            try clear hfz26_1
            try clear hfz26_2
            try clear hfz31_0
            try clear hfz31_1
            try clear hfz31_2
            try clear hfz31_3
            try clear hfz31_4
            try clear hfz40_0
            try clear hfz40_1
            try clear hfz40_2
            try clear hfz40_3
            try clear hfz40_4
            try clear hfz41_0
            try clear hfz41_1
            try clear hfz41_2
            try clear hfz41_3
            try clear hfz41_4
            try clear hfz42_0
            try clear hfz42_1
            try clear hfz42_2
            try clear hfz42_3
            try clear hfz42_4
            try clear hfz43_0
            try clear hfz43_1
            try clear hfz43_2
            try clear hfz43_3
            try clear hfz43_4
            try clear hfz44_0
            try clear hfz44_1
            try clear hfz44_2
            try clear hfz44_3
            try clear hfz44_4
            try clear hfz50_0
            try clear hfz50_1
            try clear hfz50_2
            try clear hfz50_3
            try clear hfz50_4
            try clear hfz51_0
            try clear hfz51_1
            try clear hfz51_2
            try clear hfz51_3
            try clear hfz51_4
            try clear hfz52_0
            try clear hfz52_1
            try clear hfz52_2
            try clear hfz52_3
            try clear hfz52_4
            try clear hx119_0
            try clear hx119_1
            try clear hx119_2
            try clear hx122_0
            try clear hx122_1
            try clear hx122_2
            try clear hx123_0
            try clear hx123_1
            try clear hx123_2
            try clear hx123_3
            try clear hx123_4
            try clear hx129_0
            try clear p1
            try clear p11
            try clear p119
            try clear p12
            try clear p122
            try clear p123
            try clear p129
            try clear p2
            try clear p6
            try clear q1
            try clear q11
            try clear q119
            try clear q12
            try clear q122
            try clear q123
            try clear q129
            obtain ⟨x10_6, rfl, HA, HK6, BK124, HB⟩ := hrel
            cases gk with
            | zero => exact absurd HA.out (by simp [spec_ShiftsOK.l3])
            | succ k6 =>
             have H := HA.out
             clear HA
             simp only [spec_ShiftsOK.l3] at H
             by_cases c53 : x10_6 < x7_3
             rotate_left
             ·rw [if_neg c53] at H
              have c53b0 := decide_eq_false c53
              clear c53
              have H' := zb H
              clear H
              go_wp2
              repeat (go_quiet (fail); try go_wp2)
              go_roundg k6
              case measure => have := HJ2.out; have := HK2.out; have := HK3.out; have := HJ28.out; have := HK5.out; have := HK6.out; omega
              case rel => exact ⟨(wrap64 (x7_3 + 1)), zG95, H', ⟨zH76⟩, ⟨zH60⟩⟩
             rw [if_pos c53] at H
             have c53b0 := decide_eq_true c53
             clear c53
             by_cases c54 : 0 ≤ x10_6
             rotate_left
             ·rw [if_neg c54] at H
              exact absurd H (by simp)
             rw [if_pos c54] at H
             have c54b0 := decide_eq_true c54
             clear c54
             by_cases c55 : x10_6 < (l1.length : Int)
             rotate_left
             ·rw [if_neg c55] at H
              exact absurd H (by simp)
             rw [if_pos c55] at H
             have c55b0 := decide_eq_true c55
             clear c55
             by_cases c56 : ((rd_T100 l1 x10_6).f0).toList = ((rd_T100 l1 x7_3).f0).toList
             ·rw [if_pos c56] at H
              have c56b0 : (((rd_T100 l1 x10_6).f0).toList == ((rd_T100 l1 x7_3).f0).toList) = true := beq_iff_eq.mpr c56
              have c56b1 : (((rd_T100 l1 x10_6).f0).toList != ((rd_T100 l1 x7_3).f0).toList) = false := bne_eq_false_iff_eq.mpr c56
              clear c56
              obtain rfl := Option.some.inj H
              have p131 : 0 ≤ (x10_6 : Int) := zO
              have q131 : x10_6 < (l1.length : Int) := zO
              obtain ⟨ad131, A131_4, c131_4, e131, hx131_0, hx131_1, hx131_2, hx131_3, hx131_4, hl131_4, hi131_4⟩ := at_T100 HR1.out x10_6 p131 q131
              obtain rfl : ad123 = ad131 := (by injection e131)
              replace hx131_0 := (HB.out.cell (za w _ hx131_0)).trans hx131_0
              replace hx131_1 := (HB.out.cell (za w _ hx131_1)).trans hx131_1
              replace hx131_2 := (HB.out.cell (za w _ hx131_2)).trans hx131_2
              replace hx131_3 := (HB.out.cell (za w _ hx131_3)).trans hx131_3
              replace hx131_4 := (HB.out.cell (za w _ hx131_4)).trans hx131_4
              have HR131_4 := zb hi131_4
              have HC131_4 := zb hl131_4
              clear hi131_4 hl131_4
              replace p131 := eq_true p131
              replace q131 := eq_true q131
              have hcz57_0 : wr.cell? ⟨gb124, 0, none⟩ = some (.string ((rd_T100 l1 x7_3).f0)) := (zg BK124.out 0).trans rfl
              have hcz57_1 : wr.cell? ⟨gb124, 1, none⟩ = some (.int .i64 ((rd_T100 l1 x7_3).f1)) := (zg BK124.out 1).trans rfl
              have hcz57_2 : wr.cell? ⟨gb124, 2, none⟩ = some (.int .i64 ((rd_T100 l1 x7_3).f2)) := (zg BK124.out 2).trans rfl
              have hcz57_3 : wr.cell? ⟨gb124, 3, none⟩ = some (.int .i64 ((rd_T100 l1 x7_3).f3)) := (zg BK124.out 3).trans rfl
              have hcz57_4 : wr.cell? ⟨gb124, 4, none⟩ = some (.slice A123_4 ((rd_T100 l1 x7_3).f4).length c123_4) := (zg BK124.out 4).trans rfl
              have hfz57_0 := zf BK124.out 0
              have hfz57_1 := zf BK124.out 1
              have hfz57_2 := zf BK124.out 2
              have hfz57_3 := zf BK124.out 3
              have hfz57_4 := zf BK124.out 4
              go_wp2
              repeat (go_quiet (fail); try go_wp2)
              go_ret
              exact zH20
             rw [if_neg c56] at H
             have c56b0 : (((rd_T100 l1 x10_6).f0).toList == ((rd_T100 l1 x7_3).f0).toList) = false := beq_eq_false_iff_ne.mpr c56
             have c56b1 : (((rd_T100 l1 x10_6).f0).toList != ((rd_T100 l1 x7_3).f0).toList) = true := bne_iff_ne.mpr c56
             have H' := zb H
             clear H
             have p131 : 0 ≤ (x10_6 : Int) := zO
             have q131 : x10_6 < (l1.length : Int) := zO
             obtain ⟨ad131, A131_4, c131_4, e131, hx131_0, hx131_1, hx131_2, hx131_3, hx131_4, hl131_4, hi131_4⟩ := at_T100 HR1.out x10_6 p131 q131
             obtain rfl : ad123 = ad131 := (by injection e131)
             replace hx131_0 := (HB.out.cell (za w _ hx131_0)).trans hx131_0
             replace hx131_1 := (HB.out.cell (za w _ hx131_1)).trans hx131_1
             replace hx131_2 := (HB.out.cell (za w _ hx131_2)).trans hx131_2
             replace hx131_3 := (HB.out.cell (za w _ hx131_3)).trans hx131_3
             replace hx131_4 := (HB.out.cell (za w _ hx131_4)).trans hx131_4
             have HR131_4 := zb hi131_4
             have HC131_4 := zb hl131_4
             clear hi131_4 hl131_4
             replace p131 := eq_true p131
             replace q131 := eq_true q131
             have hcz58_0 : wr.cell? ⟨gb124, 0, none⟩ = some (.string ((rd_T100 l1 x7_3).f0)) := (zg BK124.out 0).trans rfl
             have hcz58_1 : wr.cell? ⟨gb124, 1, none⟩ = some (.int .i64 ((rd_T100 l1 x7_3).f1)) := (zg BK124.out 1).trans rfl
             have hcz58_2 : wr.cell? ⟨gb124, 2, none⟩ = some (.int .i64 ((rd_T100 l1 x7_3).f2)) := (zg BK124.out 2).trans rfl
             have hcz58_3 : wr.cell? ⟨gb124, 3, none⟩ = some (.int .i64 ((rd_T100 l1 x7_3).f3)) := (zg BK124.out 3).trans rfl
             have hcz58_4 : wr.cell? ⟨gb124, 4, none⟩ = some (.slice A123_4 ((rd_T100 l1 x7_3).f4).length c123_4) := (zg BK124.out 4).trans rfl
             have hfz58_0 := zf BK124.out 0
             have hfz58_1 := zf BK124.out 1
             have hfz58_2 := zf BK124.out 2
             have hfz58_3 := zf BK124.out 3
             have hfz58_4 := zf BK124.out 4
             go_wp2
             repeat (go_quiet (fail); try go_wp2)
             go_roundg k6
             case measure => have := HJ2.out; have := HK2.out; have := HK3.out; have := HJ28.out; have := HK5.out; have := HK6.out; omega
             case rel => exact ⟨(wrap64 (x10_6 + 1)), zG95, H', ⟨zH76⟩, ⟨zH84⟩, ⟨zH60⟩⟩
end Go.Proofs.Ytjibigpdbpipcaa.R
