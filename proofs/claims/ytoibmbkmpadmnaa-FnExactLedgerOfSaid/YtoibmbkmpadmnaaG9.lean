-- squeezed
-- made by pp.py (wip/tools) out of the translation; Lean checks it
import Derived.Test.YtoibmbkmpadmnaaG0
import Derived.Test.YtoibmbkmpadmnaaG6
import Derived.Test.YtoibmbkmpadmnaaG8
namespace Go.Proofs.Ytoibmbkmpadmnaa.G
open Go.RowKit Go.Proofs.YtoibmbkmpadmnaaW.PrintWords Go.Proofs.YtoibmbkmpadmnaaW.PrintLast Go.Proofs.YtoibmbkmpadmnaaW.PrintMore
attribute [local go_sem] max2_int min2_int max_two min_two max_three min_three max_four min_four   -- for this text's walks alone
set_option linter.unusedVariables false
set_option linter.unusedSimpArgs false

abbrev b9A0 := zM 23 0
abbrev b9A1 := zM 23 1
abbrev b9A2 := zM 23 3
abbrev b9A3 := zM 23 7
abbrev b9A4 := zM 23 15
abbrev b9A5 := zM 23 31
abbrev b9A6 := zM 23 63
abbrev b9A7 := zM 23 127
abbrev b9A8 := zM 23 255
abbrev b9A9 := zM 23 511
abbrev b9A10 := zM 23 1023
abbrev b9A11 := zM 23 2047
abbrev b9A12 := zM 23 4095
abbrev b9A13 := zM 23 8191
abbrev b9A14 := zM 23 16383
abbrev b9A15 := zM 23 262143
abbrev b9A16 := zM 23 524287
abbrev b9A17 := zM 23 1048575
abbrev b9A18 := zM 23 2097151
abbrev b9A19 := zM 23 4194303
abbrev b9A20 := zM 23 8388607
abbrev b9A21 := zM 24 0
abbrev b9A22 := zM 24 1
abbrev b9A23 := zM 24 3
abbrev b9A24 := zM 24 7
abbrev b9A25 := zM 24 15
abbrev b9A26 := zM 24 47
abbrev b9A27 := zM 24 111
abbrev b9A28 := zM 24 239
abbrev b9A29 := zM 24 495
abbrev b9A30 := zM 24 511
abbrev b9A31 := zM 24 1023
abbrev b9A32 := zM 24 2047
abbrev b9A33 := zM 24 4095
abbrev b9A34 := zM 24 8191
abbrev b9A35 := zM 24 16383
abbrev b9A36 := zM 24 32767
abbrev b9A37 := zM 24 65535
abbrev b9A38 := zM 24 2097151
abbrev b9A39 := zM 24 4194303
abbrev b9A40 := zM 24 8388607
abbrev b9A41 := zM 24 16777215
abbrev b9A42 := zM 23 32767
abbrev b9A43 := zM 23 65535
abbrev b9A44 := zM 23 131071
abbrev b9A45 := zM 24 196607
abbrev b9A46 := zM 24 458751
abbrev b9A47 := zM 24 983039
abbrev b9A48 := zM 24 2031615
/-! ### spec_EventsOK: function 28 -/
mutual
def spec_EventsOK.l0 : Nat → List (S35) → Int → Option (Bool)
 | 0, _, _ => none
 | k + 1, x0, x3 => if x3 < (x0.length : Int) then (if 0 ≤ x3 then ((spec_l12Right.f k ((rd_T35 x0 x3).f0) ((rd_T35 x0 x3).f1) ((rd_T35 x0 x3).f2) ((rd_T35 x0 x3).f3) ((rd_T35 x0 x3).f4) ((rd_T35 x0 x3).f5)).bind fun t150 => (if t150 = true then (if x3 > 0 then (if 0 ≤ (wrap64 (x3 - 1)) then (if (wrap64 (x3 - 1)) < (x0.length : Int) then ((spec_l12Ahead.f ((rd_T35 x0 (wrap64 (x3 - 1))).f0) ((rd_T35 x0 (wrap64 (x3 - 1))).f1) ((rd_T35 x0 (wrap64 (x3 - 1))).f2) ((rd_T35 x0 (wrap64 (x3 - 1))).f3) ((rd_T35 x0 (wrap64 (x3 - 1))).f4) ((rd_T35 x0 (wrap64 (x3 - 1))).f5) ((rd_T35 x0 x3).f0) ((rd_T35 x0 x3).f1) ((rd_T35 x0 x3).f2) ((rd_T35 x0 x3).f3) ((rd_T35 x0 x3).f4) ((rd_T35 x0 x3).f5)).bind fun t153 => (spec_EventsOK.j1 k x0 x3 (!t153))) else (none)) else (none)) else (spec_EventsOK.j1 k x0 x3 false)) else (spec_EventsOK.j1 k x0 x3 true))) else (none)) else (some true)
def spec_EventsOK.j1 : Nat → List (S35) → Int → Bool → Option (Bool)
 | 0, _, _, _ => none
 | k + 1, x0, x3, x36 => if x36 = true then (some false) else (spec_EventsOK.l1 k x0 x3 0)
def spec_EventsOK.l1 : Nat → List (S35) → Int → Int → Option (Bool)
 | 0, _, _, _ => none
 | k + 1, x0, x3, x4 => if x4 < x3 then (if 0 ≤ x4 then (if x4 < (x0.length : Int) then (if 0 ≤ x3 then (if x3 < (x0.length : Int) then (if ((rd_T35 x0 x4).f0) = ((rd_T35 x0 x3).f0) then (if ((rd_T35 x0 x4).f1) ≥ ((rd_T35 x0 x3).f1) then (some false) else (spec_EventsOK.l1 k x0 x3 (wrap64 (x4 + 1)))) else (spec_EventsOK.l1 k x0 x3 (wrap64 (x4 + 1)))) else (none)) else (none)) else (none)) else (none)) else (spec_EventsOK.l0 k x0 (wrap64 (x3 + 1)))
end
def spec_EventsOK.f (k : Nat) (l0 : List (S35)) : Option (Bool) := if (l0.length : Int) > 120 then (some false) else (spec_EventsOK.l0 k l0 0)
theorem spec_EventsOK.mono_l : ∀ k, (∀ y0 y1, LeO (spec_EventsOK.l0 k y0 y1) (spec_EventsOK.l0 (k + 1) y0 y1)) ∧ (∀ y0 y1 y2, LeO (spec_EventsOK.j1 k y0 y1 y2) (spec_EventsOK.j1 (k + 1) y0 y1 y2)) ∧ (∀ y0 y1 y2, LeO (spec_EventsOK.l1 k y0 y1 y2) (spec_EventsOK.l1 (k + 1) y0 y1 y2))
 | 0 => ⟨fun _ _ r h => by simp [spec_EventsOK.l0] at h, fun _ _ _ r h => by simp [spec_EventsOK.j1] at h, fun _ _ _ r h => by simp [spec_EventsOK.l1] at h⟩
 | k + 1 => by
  obtain ⟨ih0, ih1, ih2⟩ := spec_EventsOK.mono_l k
  refine ⟨?_, ?_, ?_⟩
  ·intro y0 y1
   unfold spec_EventsOK.l0
   repeat' first
   | (with_reducible exact ih0 _ _)
   | (with_reducible exact ih1 _ _ _)
   | (with_reducible exact ih2 _ _ _)
   | (with_reducible exact spec_l12Right.mono _ _ _ _ _ _ _)
   | (with_reducible exact LeO.refl _)
   | (with_reducible exact LeO.none _)
   | (with_reducible refine LeO.ite ?_ ?_)
   | (with_reducible refine LeO.bind ?_ (fun _ => ?_))
   | exact ih0 _ _
   | exact ih1 _ _ _
   | exact ih2 _ _ _
   | exact spec_l12Right.mono _ _ _ _ _ _ _
   | exact LeO.none _
   | refine LeO.ite ?_ ?_
   | refine LeO.bind ?_ (fun _ => ?_)
  ·intro y0 y1 y2
   unfold spec_EventsOK.j1
   repeat' first
   | (with_reducible exact ih0 _ _)
   | (with_reducible exact ih1 _ _ _)
   | (with_reducible exact ih2 _ _ _)
   | (with_reducible exact spec_l12Right.mono _ _ _ _ _ _ _)
   | (with_reducible exact LeO.refl _)
   | (with_reducible exact LeO.none _)
   | (with_reducible refine LeO.ite ?_ ?_)
   | (with_reducible refine LeO.bind ?_ (fun _ => ?_))
   | exact ih0 _ _
   | exact ih1 _ _ _
   | exact ih2 _ _ _
   | exact spec_l12Right.mono _ _ _ _ _ _ _
   | exact LeO.none _
   | refine LeO.ite ?_ ?_
   | refine LeO.bind ?_ (fun _ => ?_)
  ·intro y0 y1 y2
   unfold spec_EventsOK.l1
   repeat' first
   | (with_reducible exact ih0 _ _)
   | (with_reducible exact ih1 _ _ _)
   | (with_reducible exact ih2 _ _ _)
   | (with_reducible exact spec_l12Right.mono _ _ _ _ _ _ _)
   | (with_reducible exact LeO.refl _)
   | (with_reducible exact LeO.none _)
   | (with_reducible refine LeO.ite ?_ ?_)
   | (with_reducible refine LeO.bind ?_ (fun _ => ?_))
   | exact ih0 _ _
   | exact ih1 _ _ _
   | exact ih2 _ _ _
   | exact spec_l12Right.mono _ _ _ _ _ _ _
   | exact LeO.none _
   | refine LeO.ite ?_ ?_
   | refine LeO.bind ?_ (fun _ => ?_)
theorem spec_EventsOK.mono : ∀ a0 k, LeO (spec_EventsOK.f k a0) (spec_EventsOK.f (k + 1) a0) := by
 intro a0 k
 obtain ⟨ih0, ih1, ih2⟩ := spec_EventsOK.mono_l k
 unfold spec_EventsOK.f
 repeat' first
   | (with_reducible exact ih0 _ _)
   | (with_reducible exact ih1 _ _ _)
   | (with_reducible exact ih2 _ _ _)
   | (with_reducible exact spec_l12Right.mono _ _ _ _ _ _ _)
   | (with_reducible exact LeO.refl _)
   | (with_reducible exact LeO.none _)
   | (with_reducible refine LeO.ite ?_ ?_)
   | (with_reducible refine LeO.bind ?_ (fun _ => ?_))
   | exact ih0 _ _
   | exact ih1 _ _ _
   | exact ih2 _ _ _
   | exact spec_l12Right.mono _ _ _ _ _ _ _
   | exact LeO.none _
   | refine LeO.ite ?_ ?_
   | refine LeO.bind ?_ (fun _ => ?_)
def spec_EventsOK.T6 : Bool × List (List Nat × List Nat) := (true, [([], []), ([], []), ([0, 1], [0, 1]), ([2], [2]), ([3], [3]), ([4], [4]), ([5, 4], [5]), ([6], [6]), ([7, 6], [6, 7]), ([8, 6, 6], [6, 8]), ([9], [9]), ([9], [9]), ([11, 9], [9, 11]), ([10, 12, 9], [9, 10, 12]), ([13, 9], [9, 13]), ([9], [9]), ([9], [9]), ([15, 16, 9], [9, 15, 16]), ([17, 9], [9, 17]), ([14, 18, 9, 9], [9, 14, 18]), ([19, 9], [9, 19]), ([9, 20, 6], [6, 9, 20]), ([6, 21], [6, 21])])
def spec_EventsOK.B6 : List Nat := [0, 0, 3, 7, 15, 31, 63, 127, 255, 511, 1023, 1023, 3071, 8191, 16383, 1023, 1023, 99327, 230399, 524287, 1048575, 2097151, 4194303]
theorem spec_EventsOK.tab6 : rtab .any (opsOf Try.f28 6) = spec_EventsOK.T6 := by kernel_rfl
theorem spec_EventsOK.bits6 : waitsOk spec_EventsOK.T6.2 spec_EventsOK.B6 = true := by kernel_rfl
def spec_EventsOK.T11 : Bool × List (List Nat × List Nat) := (true, [([], []), ([], []), ([0, 1], [0, 1]), ([2], [2]), ([3], [3]), ([], []), ([], []), ([5, 6], [5, 6]), ([7], [7]), ([8], [8]), ([4, 9], [4, 9]), ([10], [10]), ([11], [11]), ([11], [11]), ([12, 13, 11], [11, 12, 13]), ([14, 11], [11, 14]), ([15, 11], [11, 15]), ([11], [11]), ([11], [11]), ([17, 18, 11], [11, 17, 18]), ([19, 11], [11, 19]), ([20, 11], [11, 20]), ([16, 21, 11], [11, 16, 21]), ([11, 22], [11, 22])])
def spec_EventsOK.B11 : List Nat := [0, 0, 3, 7, 15, 0, 0, 96, 224, 480, 1023, 2047, 4095, 4095, 16383, 32767, 65535, 4095, 4095, 397311, 921599, 1970175, 4194303, 8388607]
theorem spec_EventsOK.tab11 : rtab .any (opsOf Try.f28 11) = spec_EventsOK.T11 := by kernel_rfl
theorem spec_EventsOK.bits11 : waitsOk spec_EventsOK.T11.2 spec_EventsOK.B11 = true := by kernel_rfl
set_option maxHeartbeats 64000000 in
set_option maxRecDepth 100000 in
theorem spec_EventsOK.calls (k : Nat) (A0 : Option Addr) (c0 : Nat) (l0 : List (S35)) (r : Bool) (w : World) (hr0 : Kd.C k35 w A0 l0.length l0) (hc0 : l0.length ≤ c0) (h : spec_EventsOK.f k l0 = some r) :
  Calls Try.prog 28 #[.slice A0 l0.length c0] w fun e w' => e = .returned (.bool r) ∧ Below w.heap.size w w' := by
 have hu35 := Try.underlying35
 obtain ⟨HR0, HC0, HB⟩ := zD3 hr0 hc0 (Below.refl w.heap.size w)
 clear hr0 hc0
 have H : (if (l0.length : Int) > 120 then (some false) else (spec_EventsOK.l0 k l0 0)) = some r := h
 clear h
 by_cases c2 : (l0.length : Int) > 120
 ·rw [if_pos c2] at H
  have c2b0 : decide (120 < (l0.length : Int)) = true := decide_eq_true c2
  have c2b1 : decide (120 < l0.length) = true := decide_eq_true (by omega)
  clear c2
  obtain rfl := Option.some.inj H
  go_enter Try.func28, Try.ntmps28
  go_wp2
  go_ret
  exact zH32
 rw [if_neg c2] at H
 have c2b0 : decide (120 < (l0.length : Int)) = false := decide_eq_false c2
 have c2b1 : decide (120 < l0.length) = false := decide_eq_false (by omega)
 clear c2
 have H' := zb H
 clear H
 go_enter Try.func28, Try.ntmps28
 go_wp2
 go_loopg [3] k (fun kq v3 w' => ∃ (x3_1 : Int), v3 = .int .i64 x3_1 ∧ Aside0 (spec_EventsOK.l0 kq l0 x3_1 = some r) ∧ Aside0 (kq ≤ k) ∧ Aside0 (Below w.heap.size w w'))
 case atStart => exact ⟨(0), zG74, H', ⟨Nat.le_refl _⟩, ⟨zH82⟩⟩
 case round =>
  clear H'
  try clear c2
  try clear c2b0
  try clear c2b1
  obtain ⟨x3_1, rfl, HA, HK1, HB⟩ := hrel
  cases gk with
  | zero => exact absurd HA.out (by simp [spec_EventsOK.l0])
  | succ k1 =>
   have H := HA.out
   clear HA
   simp only [spec_EventsOK.l0] at H
   by_cases c3 : x3_1 < (l0.length : Int)
   rotate_left
   ·rw [if_neg c3] at H
    have c3b0 := decide_eq_false c3
    clear c3
    obtain rfl := Option.some.inj H
    go_wp2
    go_ret
    exact zH32

   rw [if_pos c3] at H
   have c3b0 := decide_eq_true c3
   clear c3
   have HC4 := zb H
   clear H
   go_upto_region 6 with (fail)
   go_cut [36] (fun v36 wc => ∃ (kq : Nat) (x36_3 : Bool), v36 = .bool x36_3 ∧ Aside0 (spec_EventsOK.j1 kq l0 x3_1 x36_3 = some r) ∧ Aside0 (kq ≤ k1) ∧ Aside0 (Below w.heap.size w wc))
   case first =>
    have H := HC4.out
    clear HC4
    by_cases c5 : 0 ≤ x3_1
    rotate_left
    ·rw [if_neg c5] at H
     exact absurd H (by simp)
    rw [if_pos c5] at H
    have c5b0 := decide_eq_true c5
    clear c5
    (first | rw [c5b0] | (simp only [i64_w, i32_w]; rw [c5b0]) | skip)
    replace H := Option.bind_eq_some_iff.mp H
    obtain ⟨t150, A60, H⟩ := H
    replace H : (if t150 = true then (if x3_1 > 0 then (if 0 ≤ (wrap64 (x3_1 - 1)) then (if (wrap64 (x3_1 - 1)) < (l0.length : Int) then ((spec_l12Ahead.f ((rd_T35 l0 (wrap64 (x3_1 - 1))).f0) ((rd_T35 l0 (wrap64 (x3_1 - 1))).f1) ((rd_T35 l0 (wrap64 (x3_1 - 1))).f2) ((rd_T35 l0 (wrap64 (x3_1 - 1))).f3) ((rd_T35 l0 (wrap64 (x3_1 - 1))).f4) ((rd_T35 l0 (wrap64 (x3_1 - 1))).f5) ((rd_T35 l0 x3_1).f0) ((rd_T35 l0 x3_1).f1) ((rd_T35 l0 x3_1).f2) ((rd_T35 l0 x3_1).f3) ((rd_T35 l0 x3_1).f4) ((rd_T35 l0 x3_1).f5)).bind fun t153 => (spec_EventsOK.j1 k1 l0 x3_1 (!t153))) else (none)) else (none)) else (spec_EventsOK.j1 k1 l0 x3_1 false)) else (spec_EventsOK.j1 k1 l0 x3_1 true)) = some r := H
    have A6 := zb A60
    clear A60
    by_cases c7 : t150 = true
    rotate_left
    ·replace c7 := Bool.eq_false_iff.mpr c7
     subst c7
     have H1 : (spec_EventsOK.j1 k1 l0 x3_1 true) = some r := by rw [if_neg (show ¬ (false = true) by decide)] at H; exact H
     clear H
     have H := H1
     clear H1
     have H' := zb H
     clear H
     try go_wp2
     have n0_ := zb (ze HB.out)
     clear HB
     have HB := n0_
     clear n0_
     have p149 : 0 ≤ (x3_1 : Int) := zO
     have q149 : x3_1 < (l0.length : Int) := zO
     obtain ⟨ad149, e149, hx149_0, hx149_1, hx149_2, hx149_3, hx149_4, hx149_5⟩ := at_T35 HR0.out x3_1 p149 q149
     have hw149_5 := hx149_5
     have hw149_4 := hx149_4
     have hw149_3 := hx149_3
     have hw149_2 := hx149_2
     have hw149_1 := hx149_1
     have hw149_0 := hx149_0
     cases e149
     replace hx149_0 := (HB.out.cell (za w _ hx149_0)).trans hx149_0
     replace hx149_1 := (HB.out.cell (za w _ hx149_1)).trans hx149_1
     replace hx149_2 := (HB.out.cell (za w _ hx149_2)).trans hx149_2
     replace hx149_3 := (HB.out.cell (za w _ hx149_3)).trans hx149_3
     replace hx149_4 := (HB.out.cell (za w _ hx149_4)).trans hx149_4
     replace hx149_5 := (HB.out.cell (za w _ hx149_5)).trans hx149_5
     replace p149 := eq_true p149
     replace q149 := eq_true q149
     refine start_ (n := 23) (S := fun w' => w'.cell? (ad149.add ((x3_1).toNat * 6)) = some (.int .i64 ((rd_T35 l0 x3_1).f0)) ∧ w'.cell? ⟨(ad149.add ((x3_1).toNat * 6)).block, (ad149.add ((x3_1).toNat * 6)).off + 1, none⟩ = some (.int .i64 ((rd_T35 l0 x3_1).f1)) ∧ w'.cell? ⟨(ad149.add ((x3_1).toNat * 6)).block, (ad149.add ((x3_1).toNat * 6)).off + 2, none⟩ = some (.int .i64 ((rd_T35 l0 x3_1).f2)) ∧ w'.cell? ⟨(ad149.add ((x3_1).toNat * 6)).block, (ad149.add ((x3_1).toNat * 6)).off + 3, none⟩ = some (.int .i64 ((rd_T35 l0 x3_1).f3)) ∧ w'.cell? ⟨(ad149.add ((x3_1).toNat * 6)).block, (ad149.add ((x3_1).toNat * 6)).off + 4, none⟩ = some (.string ((rd_T35 l0 x3_1).f4)) ∧ w'.cell? ⟨(ad149.add ((x3_1).toNat * 6)).block, (ad149.add ((x3_1).toNat * 6)).off + 5, none⟩ = some (.int .i64 ((rd_T35 l0 x3_1).f5))) (ds := []) b9A0 zG75 rfl rfl ⟨((HB.out.cell (za w _ hw149_0)).trans hw149_0), ((HB.out.cell (za w _ hw149_1)).trans hw149_1), ((HB.out.cell (za w _ hw149_2)).trans hw149_2), ((HB.out.cell (za w _ hw149_3)).trans hw149_3), ((HB.out.cell (za w _ hw149_4)).trans hw149_4), ((HB.out.cell (za w _ hw149_5)).trans hw149_5)⟩ (fun hHeld => ?_); refine with_tabW spec_EventsOK.tab6 spec_EventsOK.bits6 (fun HT_ HW_ => ?_)
     generalize wr.drew = w18 at HB hx149_0 hx149_1 hx149_2 hx149_3 hx149_4 hx149_5 hHeld ⊢
     refine zP 0 14 b9A1 HT_ ?_
     refine zP 1 15 b9A2 HT_ ?_
     refine zP 2 16 b9A3 HT_ ?_
     refine zQ 3 17 b9A4 HT_ HW_ hHeld ?_
     refine one_ (i := 4) (N := some 18) b9A5 rfl rfl (one_of HT_.out zG75) zG76 (fun K hK => ?_)
     refine goes_ Try.func56 zG75 rfl #[.agg #[.int .i64 ((rd_T35 l0 x3_1).f0), .int .i64 ((rd_T35 l0 x3_1).f1), .int .i64 ((rd_T35 l0 x3_1).f2), .int .i64 ((rd_T35 l0 x3_1).f3), .string ((rd_T35 l0 x3_1).f4), .int .i64 ((rd_T35 l0 x3_1).f5)]] (by rfl) rfl rfl zG55 ?_
     with_reducible refine (spec_l12Right.calls k1 ((rd_T35 l0 x3_1).f0) ((rd_T35 l0 x3_1).f1) ((rd_T35 l0 x3_1).f2) ((rd_T35 l0 x3_1).f3) ((rd_T35 l0 x3_1).f4) ((rd_T35 l0 x3_1).f5) false _ A6.out).mono ?_
     rintro e w19 ⟨rfl, hb⟩
     refine ⟨_, rfl, ?_⟩
     have n0_ := zb (zr zG61 hb)
     clear HB
     have HB := n0_
     clear n0_
     (try clear hb)
     (try clear hb2)
     (try clear hk)
     (try clear hi)
     refine hK.out _ _ ⟨((HB.out.cell (za w _ hw149_0)).trans hw149_0), ((HB.out.cell (za w _ hw149_1)).trans hw149_1), ((HB.out.cell (za w _ hw149_2)).trans hw149_2), ((HB.out.cell (za w _ hw149_3)).trans hw149_3), ((HB.out.cell (za w _ hw149_4)).trans hw149_4), ((HB.out.cell (za w _ hw149_5)).trans hw149_5)⟩ (fun hHeld => ?_)
     clear hK K
     refine norm_ (a' := ?_) ?_ ?_
     rotate_left
     ·show Act.put _ (some 18) _ = _
      simp only [Act.put, List.setIfInBounds_toArray, List.set_cons_zero, List.set_cons_succ, i64_w, i32_w]
      rfl
     refine zP 5 19 b9A6 HT_ ?_
     refine zP 6 20 b9A7 HT_ ?_
     refine zU 7 21 b9A8 HT_ ?_
     refine zU 8 22 b9A9 HT_ ?_
     refine zU 9 23 b9A10 HT_ ?_
     refine zU 10 24 b9A11 HT_ ?_
     refine zU 11 25 b9A12 HT_ ?_
     refine zU 12 26 b9A13 HT_ ?_
     refine zU 13 27 b9A14 HT_ ?_
     refine zU 14 28 b9A42 HT_ ?_
     refine zU 15 29 b9A43 HT_ ?_
     refine zU 16 30 b9A44 HT_ ?_
     refine zU 17 31 b9A15 HT_ ?_
     refine zU 18 32 b9A16 HT_ ?_
     refine zU 19 33 b9A17 HT_ ?_
     refine zU 20 34 b9A18 HT_ ?_
     refine zU 21 35 b9A19 HT_ ?_
     refine zP 22 36 b9A20 HT_ ?_
     refine done_ (done_of HT_.out zG75) ?_
     try go_wp2
     go_meet
     case rel => exact ⟨_, (true), zG74, H', ⟨zH99⟩, ⟨zH82⟩⟩
    subst c7
    have H1 : (if x3_1 > 0 then (if 0 ≤ (wrap64 (x3_1 - 1)) then (if (wrap64 (x3_1 - 1)) < (l0.length : Int) then ((spec_l12Ahead.f ((rd_T35 l0 (wrap64 (x3_1 - 1))).f0) ((rd_T35 l0 (wrap64 (x3_1 - 1))).f1) ((rd_T35 l0 (wrap64 (x3_1 - 1))).f2) ((rd_T35 l0 (wrap64 (x3_1 - 1))).f3) ((rd_T35 l0 (wrap64 (x3_1 - 1))).f4) ((rd_T35 l0 (wrap64 (x3_1 - 1))).f5) ((rd_T35 l0 x3_1).f0) ((rd_T35 l0 x3_1).f1) ((rd_T35 l0 x3_1).f2) ((rd_T35 l0 x3_1).f3) ((rd_T35 l0 x3_1).f4) ((rd_T35 l0 x3_1).f5)).bind fun t153 => (spec_EventsOK.j1 k1 l0 x3_1 (!t153))) else (none)) else (none)) else (spec_EventsOK.j1 k1 l0 x3_1 false)) = some r := by rw [if_pos rfl] at H; exact H
    clear H
    have H := H1
    clear H1
    by_cases c8 : x3_1 > 0
    rotate_left
    ·rw [if_neg c8] at H
     have c8b0 : decide (0 < x3_1) = false := decide_eq_false c8
     clear c8
     have H' := zb H
     clear H
     try go_wp2
     have n0_ := zb (ze HB.out)
     clear HB
     have HB := n0_
     clear n0_
     have p149 : 0 ≤ (x3_1 : Int) := zO
     have q149 : x3_1 < (l0.length : Int) := zO
     obtain ⟨ad149, e149, hx149_0, hx149_1, hx149_2, hx149_3, hx149_4, hx149_5⟩ := at_T35 HR0.out x3_1 p149 q149
     have hw149_5 := hx149_5
     have hw149_4 := hx149_4
     have hw149_3 := hx149_3
     have hw149_2 := hx149_2
     have hw149_1 := hx149_1
     have hw149_0 := hx149_0
     cases e149
     replace hx149_0 := (HB.out.cell (za w _ hx149_0)).trans hx149_0
     replace hx149_1 := (HB.out.cell (za w _ hx149_1)).trans hx149_1
     replace hx149_2 := (HB.out.cell (za w _ hx149_2)).trans hx149_2
     replace hx149_3 := (HB.out.cell (za w _ hx149_3)).trans hx149_3
     replace hx149_4 := (HB.out.cell (za w _ hx149_4)).trans hx149_4
     replace hx149_5 := (HB.out.cell (za w _ hx149_5)).trans hx149_5
     replace p149 := eq_true p149
     replace q149 := eq_true q149
     refine start_ (n := 23) (S := fun w' => w'.cell? (ad149.add ((x3_1).toNat * 6)) = some (.int .i64 ((rd_T35 l0 x3_1).f0)) ∧ w'.cell? ⟨(ad149.add ((x3_1).toNat * 6)).block, (ad149.add ((x3_1).toNat * 6)).off + 1, none⟩ = some (.int .i64 ((rd_T35 l0 x3_1).f1)) ∧ w'.cell? ⟨(ad149.add ((x3_1).toNat * 6)).block, (ad149.add ((x3_1).toNat * 6)).off + 2, none⟩ = some (.int .i64 ((rd_T35 l0 x3_1).f2)) ∧ w'.cell? ⟨(ad149.add ((x3_1).toNat * 6)).block, (ad149.add ((x3_1).toNat * 6)).off + 3, none⟩ = some (.int .i64 ((rd_T35 l0 x3_1).f3)) ∧ w'.cell? ⟨(ad149.add ((x3_1).toNat * 6)).block, (ad149.add ((x3_1).toNat * 6)).off + 4, none⟩ = some (.string ((rd_T35 l0 x3_1).f4)) ∧ w'.cell? ⟨(ad149.add ((x3_1).toNat * 6)).block, (ad149.add ((x3_1).toNat * 6)).off + 5, none⟩ = some (.int .i64 ((rd_T35 l0 x3_1).f5))) (ds := []) b9A0 zG75 rfl rfl ⟨((HB.out.cell (za w _ hw149_0)).trans hw149_0), ((HB.out.cell (za w _ hw149_1)).trans hw149_1), ((HB.out.cell (za w _ hw149_2)).trans hw149_2), ((HB.out.cell (za w _ hw149_3)).trans hw149_3), ((HB.out.cell (za w _ hw149_4)).trans hw149_4), ((HB.out.cell (za w _ hw149_5)).trans hw149_5)⟩ (fun hHeld => ?_); refine with_tabW spec_EventsOK.tab6 spec_EventsOK.bits6 (fun HT_ HW_ => ?_)
     generalize wr.drew = w16 at HB hx149_0 hx149_1 hx149_2 hx149_3 hx149_4 hx149_5 hHeld ⊢
     refine zP 0 14 b9A1 HT_ ?_
     refine zP 1 15 b9A2 HT_ ?_
     refine zP 2 16 b9A3 HT_ ?_
     refine zQ 3 17 b9A4 HT_ HW_ hHeld ?_
     refine one_ (i := 4) (N := some 18) b9A5 rfl rfl (one_of HT_.out zG75) zG76 (fun K hK => ?_)
     refine goes_ Try.func56 zG75 rfl #[.agg #[.int .i64 ((rd_T35 l0 x3_1).f0), .int .i64 ((rd_T35 l0 x3_1).f1), .int .i64 ((rd_T35 l0 x3_1).f2), .int .i64 ((rd_T35 l0 x3_1).f3), .string ((rd_T35 l0 x3_1).f4), .int .i64 ((rd_T35 l0 x3_1).f5)]] (by rfl) rfl rfl zG55 ?_
     with_reducible refine (spec_l12Right.calls k1 ((rd_T35 l0 x3_1).f0) ((rd_T35 l0 x3_1).f1) ((rd_T35 l0 x3_1).f2) ((rd_T35 l0 x3_1).f3) ((rd_T35 l0 x3_1).f4) ((rd_T35 l0 x3_1).f5) true _ A6.out).mono ?_
     rintro e w17 ⟨rfl, hb⟩
     refine ⟨_, rfl, ?_⟩
     have n0_ := zb (zr zG61 hb)
     clear HB
     have HB := n0_
     clear n0_
     (try clear hb)
     (try clear hb2)
     (try clear hk)
     (try clear hi)
     refine hK.out _ _ ⟨((HB.out.cell (za w _ hw149_0)).trans hw149_0), ((HB.out.cell (za w _ hw149_1)).trans hw149_1), ((HB.out.cell (za w _ hw149_2)).trans hw149_2), ((HB.out.cell (za w _ hw149_3)).trans hw149_3), ((HB.out.cell (za w _ hw149_4)).trans hw149_4), ((HB.out.cell (za w _ hw149_5)).trans hw149_5)⟩ (fun hHeld => ?_)
     clear hK K
     refine norm_ (a' := ?_) ?_ ?_
     rotate_left
     ·show Act.put _ (some 18) _ = _
      simp only [Act.put, List.setIfInBounds_toArray, List.set_cons_zero, List.set_cons_succ, i64_w, i32_w]
      rfl
     refine zP 5 19 b9A6 HT_ ?_
     refine zP 6 20 b9A7 HT_ ?_
     refine zP 7 21 b9A8 HT_ ?_
     refine zP 8 22 b9A9 HT_ ?_
     refine zP 9 23 b9A10 HT_ ?_
     refine zU 10 24 b9A11 HT_ ?_
     refine zU 11 25 b9A12 HT_ ?_
     refine zU 12 26 b9A13 HT_ ?_
     refine zU 13 27 b9A14 HT_ ?_
     refine zU 14 28 b9A42 HT_ ?_
     refine zU 15 29 b9A43 HT_ ?_
     refine zU 16 30 b9A44 HT_ ?_
     refine zU 17 31 b9A15 HT_ ?_
     refine zU 18 32 b9A16 HT_ ?_
     refine zU 19 33 b9A17 HT_ ?_
     refine zU 20 34 b9A18 HT_ ?_
     refine zP 21 35 b9A19 HT_ ?_
     refine zP 22 36 b9A20 HT_ ?_
     refine done_ (done_of HT_.out zG75) ?_
     try go_wp2
     go_meet
     case rel => exact ⟨_, (false), zG74, H', ⟨zH99⟩, ⟨zH82⟩⟩
    rw [if_pos c8] at H
    have c8b0 : decide (0 < x3_1) = true := decide_eq_true c8
    clear c8
    obtain ⟨ji9, hji9⟩ : ∃ j_ : Int, (wrap64 (x3_1 - 1)) = j_ := ⟨_, rfl⟩
    replace H : (if 0 ≤ (ji9) then (if (ji9) < (l0.length : Int) then ((spec_l12Ahead.f ((rd_T35 l0 (ji9)).f0) ((rd_T35 l0 (ji9)).f1) ((rd_T35 l0 (ji9)).f2) ((rd_T35 l0 (ji9)).f3) ((rd_T35 l0 (ji9)).f4) ((rd_T35 l0 (ji9)).f5) ((rd_T35 l0 x3_1).f0) ((rd_T35 l0 x3_1).f1) ((rd_T35 l0 x3_1).f2) ((rd_T35 l0 x3_1).f3) ((rd_T35 l0 x3_1).f4) ((rd_T35 l0 x3_1).f5)).bind fun t153 => (spec_EventsOK.j1 k1 l0 x3_1 (!t153))) else (none)) else (none)) = some r := by first | (rw [hji9] at H; exact H) | (simp only [hji9] at H ⊢; exact H)
    (try rw [hji9] at A6)
    have hji9w : (IntKind.i64.wrap (x3_1 - 1)) = ji9 := (i64_w _).trans hji9
    by_cases c10 : 0 ≤ (ji9)
    rotate_left
    ·rw [if_neg c10] at H
     exact absurd H (by simp)
    rw [if_pos c10] at H
    have c10b0 := decide_eq_true c10
    clear c10
    by_cases c11 : (ji9) < (l0.length : Int)
    rotate_left
    ·rw [if_neg c11] at H
     exact absurd H (by simp)
    rw [if_pos c11] at H
    have c11b0 := decide_eq_true c11
    clear c11
    replace H := Option.bind_eq_some_iff.mp H
    obtain ⟨t153, A120, H⟩ := H
    replace H : (spec_EventsOK.j1 k1 l0 x3_1 (!t153)) = some r := H
    have A12 := zb A120
    clear A120
    have H' := zb H
    clear H
    try go_wp2
    have n0_ := zb (ze HB.out)
    clear HB
    have HB := n0_
    clear n0_
    have p149 : 0 ≤ (x3_1 : Int) := zO
    have q149 : x3_1 < (l0.length : Int) := zO
    obtain ⟨ad149, e149, hx149_0, hx149_1, hx149_2, hx149_3, hx149_4, hx149_5⟩ := at_T35 HR0.out x3_1 p149 q149
    have hw149_5 := hx149_5
    have hw149_4 := hx149_4
    have hw149_3 := hx149_3
    have hw149_2 := hx149_2
    have hw149_1 := hx149_1
    have hw149_0 := hx149_0
    cases e149
    replace hx149_0 := (HB.out.cell (za w _ hx149_0)).trans hx149_0
    replace hx149_1 := (HB.out.cell (za w _ hx149_1)).trans hx149_1
    replace hx149_2 := (HB.out.cell (za w _ hx149_2)).trans hx149_2
    replace hx149_3 := (HB.out.cell (za w _ hx149_3)).trans hx149_3
    replace hx149_4 := (HB.out.cell (za w _ hx149_4)).trans hx149_4
    replace hx149_5 := (HB.out.cell (za w _ hx149_5)).trans hx149_5
    replace p149 := eq_true p149
    replace q149 := eq_true q149
    have p151 : 0 ≤ ((ji9) : Int) := zO
    have q151 : (ji9) < (l0.length : Int) := zO
    obtain ⟨ad151, e151, hx151_0, hx151_1, hx151_2, hx151_3, hx151_4, hx151_5⟩ := at_T35 HR0.out (ji9) p151 q151
    have hw151_5 := hx151_5
    have hw151_4 := hx151_4
    have hw151_3 := hx151_3
    have hw151_2 := hx151_2
    have hw151_1 := hx151_1
    have hw151_0 := hx151_0
    obtain rfl : ad149 = ad151 := (by injection e151)
    replace hx151_0 := (HB.out.cell (za w _ hx151_0)).trans hx151_0
    replace hx151_1 := (HB.out.cell (za w _ hx151_1)).trans hx151_1
    replace hx151_2 := (HB.out.cell (za w _ hx151_2)).trans hx151_2
    replace hx151_3 := (HB.out.cell (za w _ hx151_3)).trans hx151_3
    replace hx151_4 := (HB.out.cell (za w _ hx151_4)).trans hx151_4
    replace hx151_5 := (HB.out.cell (za w _ hx151_5)).trans hx151_5
    replace p151 := eq_true p151
    replace q151 := eq_true q151
    have p152 : 0 ≤ (x3_1 : Int) := zO
    have q152 : x3_1 < (l0.length : Int) := zO
    obtain ⟨ad152, e152, hx152_0, hx152_1, hx152_2, hx152_3, hx152_4, hx152_5⟩ := at_T35 HR0.out x3_1 p152 q152
    have hw152_5 := hx152_5
    have hw152_4 := hx152_4
    have hw152_3 := hx152_3
    have hw152_2 := hx152_2
    have hw152_1 := hx152_1
    have hw152_0 := hx152_0
    obtain rfl : ad149 = ad152 := (by injection e152)
    replace hx152_0 := (HB.out.cell (za w _ hx152_0)).trans hx152_0
    replace hx152_1 := (HB.out.cell (za w _ hx152_1)).trans hx152_1
    replace hx152_2 := (HB.out.cell (za w _ hx152_2)).trans hx152_2
    replace hx152_3 := (HB.out.cell (za w _ hx152_3)).trans hx152_3
    replace hx152_4 := (HB.out.cell (za w _ hx152_4)).trans hx152_4
    replace hx152_5 := (HB.out.cell (za w _ hx152_5)).trans hx152_5
    replace p152 := eq_true p152
    replace q152 := eq_true q152
    refine start_ (n := 23) (S := fun w' => w'.cell? (ad149.add ((x3_1).toNat * 6)) = some (.int .i64 ((rd_T35 l0 x3_1).f0)) ∧ w'.cell? ⟨(ad149.add ((x3_1).toNat * 6)).block, (ad149.add ((x3_1).toNat * 6)).off + 1, none⟩ = some (.int .i64 ((rd_T35 l0 x3_1).f1)) ∧ w'.cell? ⟨(ad149.add ((x3_1).toNat * 6)).block, (ad149.add ((x3_1).toNat * 6)).off + 2, none⟩ = some (.int .i64 ((rd_T35 l0 x3_1).f2)) ∧ w'.cell? ⟨(ad149.add ((x3_1).toNat * 6)).block, (ad149.add ((x3_1).toNat * 6)).off + 3, none⟩ = some (.int .i64 ((rd_T35 l0 x3_1).f3)) ∧ w'.cell? ⟨(ad149.add ((x3_1).toNat * 6)).block, (ad149.add ((x3_1).toNat * 6)).off + 4, none⟩ = some (.string ((rd_T35 l0 x3_1).f4)) ∧ w'.cell? ⟨(ad149.add ((x3_1).toNat * 6)).block, (ad149.add ((x3_1).toNat * 6)).off + 5, none⟩ = some (.int .i64 ((rd_T35 l0 x3_1).f5)) ∧ w'.cell? (ad149.add (((ji9)).toNat * 6)) = some (.int .i64 ((rd_T35 l0 (ji9)).f0)) ∧ w'.cell? ⟨(ad149.add (((ji9)).toNat * 6)).block, (ad149.add (((ji9)).toNat * 6)).off + 1, none⟩ = some (.int .i64 ((rd_T35 l0 (ji9)).f1)) ∧ w'.cell? ⟨(ad149.add (((ji9)).toNat * 6)).block, (ad149.add (((ji9)).toNat * 6)).off + 2, none⟩ = some (.int .i64 ((rd_T35 l0 (ji9)).f2)) ∧ w'.cell? ⟨(ad149.add (((ji9)).toNat * 6)).block, (ad149.add (((ji9)).toNat * 6)).off + 3, none⟩ = some (.int .i64 ((rd_T35 l0 (ji9)).f3)) ∧ w'.cell? ⟨(ad149.add (((ji9)).toNat * 6)).block, (ad149.add (((ji9)).toNat * 6)).off + 4, none⟩ = some (.string ((rd_T35 l0 (ji9)).f4)) ∧ w'.cell? ⟨(ad149.add (((ji9)).toNat * 6)).block, (ad149.add (((ji9)).toNat * 6)).off + 5, none⟩ = some (.int .i64 ((rd_T35 l0 (ji9)).f5)) ∧ w'.cell? (ad149.add ((x3_1).toNat * 6)) = some (.int .i64 ((rd_T35 l0 x3_1).f0)) ∧ w'.cell? ⟨(ad149.add ((x3_1).toNat * 6)).block, (ad149.add ((x3_1).toNat * 6)).off + 1, none⟩ = some (.int .i64 ((rd_T35 l0 x3_1).f1)) ∧ w'.cell? ⟨(ad149.add ((x3_1).toNat * 6)).block, (ad149.add ((x3_1).toNat * 6)).off + 2, none⟩ = some (.int .i64 ((rd_T35 l0 x3_1).f2)) ∧ w'.cell? ⟨(ad149.add ((x3_1).toNat * 6)).block, (ad149.add ((x3_1).toNat * 6)).off + 3, none⟩ = some (.int .i64 ((rd_T35 l0 x3_1).f3)) ∧ w'.cell? ⟨(ad149.add ((x3_1).toNat * 6)).block, (ad149.add ((x3_1).toNat * 6)).off + 4, none⟩ = some (.string ((rd_T35 l0 x3_1).f4)) ∧ w'.cell? ⟨(ad149.add ((x3_1).toNat * 6)).block, (ad149.add ((x3_1).toNat * 6)).off + 5, none⟩ = some (.int .i64 ((rd_T35 l0 x3_1).f5))) (ds := []) b9A0 zG75 rfl rfl ⟨((HB.out.cell (za w _ hw149_0)).trans hw149_0), ((HB.out.cell (za w _ hw149_1)).trans hw149_1), ((HB.out.cell (za w _ hw149_2)).trans hw149_2), ((HB.out.cell (za w _ hw149_3)).trans hw149_3), ((HB.out.cell (za w _ hw149_4)).trans hw149_4), ((HB.out.cell (za w _ hw149_5)).trans hw149_5), ((HB.out.cell (za w _ hw151_0)).trans hw151_0), ((HB.out.cell (za w _ hw151_1)).trans hw151_1), ((HB.out.cell (za w _ hw151_2)).trans hw151_2), ((HB.out.cell (za w _ hw151_3)).trans hw151_3), ((HB.out.cell (za w _ hw151_4)).trans hw151_4), ((HB.out.cell (za w _ hw151_5)).trans hw151_5), ((HB.out.cell (za w _ hw152_0)).trans hw152_0), ((HB.out.cell (za w _ hw152_1)).trans hw152_1), ((HB.out.cell (za w _ hw152_2)).trans hw152_2), ((HB.out.cell (za w _ hw152_3)).trans hw152_3), ((HB.out.cell (za w _ hw152_4)).trans hw152_4), ((HB.out.cell (za w _ hw152_5)).trans hw152_5)⟩ (fun hHeld => ?_); refine with_tabW spec_EventsOK.tab6 spec_EventsOK.bits6 (fun HT_ HW_ => ?_)
    generalize wr.drew = w13 at HB hx149_0 hx149_1 hx149_2 hx149_3 hx149_4 hx149_5 hx151_0 hx151_1 hx151_2 hx151_3 hx151_4 hx151_5 hx152_0 hx152_1 hx152_2 hx152_3 hx152_4 hx152_5 hHeld ⊢
    refine zP 0 14 b9A1 HT_ ?_
    refine zP 1 15 b9A2 HT_ ?_
    refine zP 2 16 b9A3 HT_ ?_
    refine zQ 3 17 b9A4 HT_ HW_ hHeld ?_
    refine one_ (i := 4) (N := some 18) b9A5 rfl rfl (one_of HT_.out zG75) zG76 (fun K hK => ?_)
    refine goes_ Try.func56 zG75 rfl #[.agg #[.int .i64 ((rd_T35 l0 x3_1).f0), .int .i64 ((rd_T35 l0 x3_1).f1), .int .i64 ((rd_T35 l0 x3_1).f2), .int .i64 ((rd_T35 l0 x3_1).f3), .string ((rd_T35 l0 x3_1).f4), .int .i64 ((rd_T35 l0 x3_1).f5)]] (by rfl) rfl rfl zG55 ?_
    with_reducible refine (spec_l12Right.calls k1 ((rd_T35 l0 x3_1).f0) ((rd_T35 l0 x3_1).f1) ((rd_T35 l0 x3_1).f2) ((rd_T35 l0 x3_1).f3) ((rd_T35 l0 x3_1).f4) ((rd_T35 l0 x3_1).f5) true _ A6.out).mono ?_
    rintro e w14 ⟨rfl, hb⟩
    refine ⟨_, rfl, ?_⟩
    have n0_ := zb (zr zG61 hb)
    clear HB
    have HB := n0_
    clear n0_
    (try clear hb)
    (try clear hb2)
    (try clear hk)
    (try clear hi)
    refine hK.out _ _ ⟨((HB.out.cell (za w _ hw149_0)).trans hw149_0), ((HB.out.cell (za w _ hw149_1)).trans hw149_1), ((HB.out.cell (za w _ hw149_2)).trans hw149_2), ((HB.out.cell (za w _ hw149_3)).trans hw149_3), ((HB.out.cell (za w _ hw149_4)).trans hw149_4), ((HB.out.cell (za w _ hw149_5)).trans hw149_5), ((HB.out.cell (za w _ hw151_0)).trans hw151_0), ((HB.out.cell (za w _ hw151_1)).trans hw151_1), ((HB.out.cell (za w _ hw151_2)).trans hw151_2), ((HB.out.cell (za w _ hw151_3)).trans hw151_3), ((HB.out.cell (za w _ hw151_4)).trans hw151_4), ((HB.out.cell (za w _ hw151_5)).trans hw151_5), ((HB.out.cell (za w _ hw152_0)).trans hw152_0), ((HB.out.cell (za w _ hw152_1)).trans hw152_1), ((HB.out.cell (za w _ hw152_2)).trans hw152_2), ((HB.out.cell (za w _ hw152_3)).trans hw152_3), ((HB.out.cell (za w _ hw152_4)).trans hw152_4), ((HB.out.cell (za w _ hw152_5)).trans hw152_5)⟩ (fun hHeld => ?_)
    clear hK K
    refine norm_ (a' := ?_) ?_ ?_
    rotate_left
    ·show Act.put _ (some 18) _ = _
     simp only [Act.put, List.setIfInBounds_toArray, List.set_cons_zero, List.set_cons_succ, i64_w, i32_w]
     rfl
    refine zP 5 19 b9A6 HT_ ?_
    refine zP 6 20 b9A7 HT_ ?_
    refine zP 7 21 b9A8 HT_ ?_
    refine zP 8 22 b9A9 HT_ ?_
    refine zP 9 23 b9A10 HT_ ?_
    refine zP 10 24 b9A11 HT_ ?_
    refine zP 11 25 b9A12 HT_ ?_
    refine zP 12 26 b9A13 HT_ ?_
    refine zP 13 27 b9A14 HT_ ?_
    refine zP 15 29 #[true, true, true, true, true, true, true, true, true, true, true, true, true, true, false, true, false, false, false, false, false, false, false] HT_ ?_
    refine zP 16 30 #[true, true, true, true, true, true, true, true, true, true, true, true, true, true, false, true, true, false, false, false, false, false, false] HT_ ?_
    refine zP 17 31 #[true, true, true, true, true, true, true, true, true, true, true, true, true, true, false, true, true, true, false, false, false, false, false] HT_ ?_
    refine zQ 14 28 b9A15 HT_ HW_ hHeld ?_
    refine zQ 18 32 b9A16 HT_ HW_ hHeld ?_
    refine one_ (i := 19) (N := some 33) b9A17 rfl rfl (one_of HT_.out zG75) zG76 (fun K hK => ?_)
    refine goes_ Try.func51 zG75 rfl #[.agg #[.int .i64 ((rd_T35 l0 (ji9)).f0), .int .i64 ((rd_T35 l0 (ji9)).f1), .int .i64 ((rd_T35 l0 (ji9)).f2), .int .i64 ((rd_T35 l0 (ji9)).f3), .string ((rd_T35 l0 (ji9)).f4), .int .i64 ((rd_T35 l0 (ji9)).f5)], .agg #[.int .i64 ((rd_T35 l0 x3_1).f0), .int .i64 ((rd_T35 l0 x3_1).f1), .int .i64 ((rd_T35 l0 x3_1).f2), .int .i64 ((rd_T35 l0 x3_1).f3), .string ((rd_T35 l0 x3_1).f4), .int .i64 ((rd_T35 l0 x3_1).f5)]] (by rfl) rfl rfl (by (try simp only [List.map_toArray, List.map_cons, List.map_nil]); first | done | (simp only [hji9]; rfl) | rfl | (simp only [List.length_drop, List.length_take]; rfl)) ?_
    with_reducible refine (spec_l12Ahead.calls ((rd_T35 l0 (ji9)).f0) ((rd_T35 l0 (ji9)).f1) ((rd_T35 l0 (ji9)).f2) ((rd_T35 l0 (ji9)).f3) ((rd_T35 l0 (ji9)).f4) ((rd_T35 l0 (ji9)).f5) ((rd_T35 l0 x3_1).f0) ((rd_T35 l0 x3_1).f1) ((rd_T35 l0 x3_1).f2) ((rd_T35 l0 x3_1).f3) ((rd_T35 l0 x3_1).f4) ((rd_T35 l0 x3_1).f5) t153 _ A12.out).mono ?_
    rintro e w15 ⟨rfl, hb⟩
    refine ⟨_, rfl, ?_⟩
    have n0_ := zb (zr zG61 hb)
    clear HB
    have HB := n0_
    clear n0_
    (try clear hb)
    (try clear hb2)
    (try clear hk)
    (try clear hi)
    refine hK.out _ _ ⟨((HB.out.cell (za w _ hw149_0)).trans hw149_0), ((HB.out.cell (za w _ hw149_1)).trans hw149_1), ((HB.out.cell (za w _ hw149_2)).trans hw149_2), ((HB.out.cell (za w _ hw149_3)).trans hw149_3), ((HB.out.cell (za w _ hw149_4)).trans hw149_4), ((HB.out.cell (za w _ hw149_5)).trans hw149_5), ((HB.out.cell (za w _ hw151_0)).trans hw151_0), ((HB.out.cell (za w _ hw151_1)).trans hw151_1), ((HB.out.cell (za w _ hw151_2)).trans hw151_2), ((HB.out.cell (za w _ hw151_3)).trans hw151_3), ((HB.out.cell (za w _ hw151_4)).trans hw151_4), ((HB.out.cell (za w _ hw151_5)).trans hw151_5), ((HB.out.cell (za w _ hw152_0)).trans hw152_0), ((HB.out.cell (za w _ hw152_1)).trans hw152_1), ((HB.out.cell (za w _ hw152_2)).trans hw152_2), ((HB.out.cell (za w _ hw152_3)).trans hw152_3), ((HB.out.cell (za w _ hw152_4)).trans hw152_4), ((HB.out.cell (za w _ hw152_5)).trans hw152_5)⟩ (fun hHeld => ?_)
    clear hK K
    refine norm_ (a' := ?_) ?_ ?_
    rotate_left
    ·show Act.put _ (some 33) _ = _
     simp only [Act.put, List.setIfInBounds_toArray, List.set_cons_zero, List.set_cons_succ, i64_w, i32_w]
     rfl
    refine zP 20 34 b9A18 HT_ ?_
    refine zP 21 35 b9A19 HT_ ?_
    refine zP 22 36 b9A20 HT_ ?_
    refine done_ (done_of HT_.out zG75) ?_
    try go_wp2
    go_meet
    case rel => exact ⟨_, (!t153), zG74, H', ⟨zH99⟩, ⟨zH82⟩⟩
   case rest =>
    clear HC4
    try clear c5
    try clear c7
    try clear c8
    try clear c8b0
    try clear c10
    try clear c11
    try clear hx149_0
    try clear hx149_1
    try clear hx149_2
    try clear hx149_3
    try clear hx149_4
    try clear hx149_5
    try clear hx151_0
    try clear hx151_1
    try clear hx151_2
    try clear hx151_3
    try clear hx151_4
    try clear hx151_5
    try clear hx152_0
    try clear hx152_1
    try clear hx152_2
    try clear hx152_3
    try clear hx152_4
    try clear hx152_5
    try clear p149
    try clear p152
    try clear q149
    try clear q151
    try clear q152
    obtain ⟨kq, x36_3, rfl, HA, HJ3, HB⟩ := hcut
    cases kq with
    | zero => exact absurd HA.out (by simp [spec_EventsOK.j1])
    | succ kj3 =>
     have H := HA.out
     clear HA
     simp only [spec_EventsOK.j1] at H
     by_cases c20 : x36_3 = true
     ·subst c20
      have H1 : (some false) = some r := by rw [if_pos rfl] at H; exact H
      clear H
      have H := H1
      clear H1
      obtain rfl := Option.some.inj H
      go_wp2
      go_ret
      exact zH32
     replace c20 := Bool.eq_false_iff.mpr c20
     subst c20
     have H1 : (spec_EventsOK.l1 kj3 l0 x3_1 0) = some r := by rw [if_neg (show ¬ (false = true) by decide)] at H; exact H
     clear H
     have H := H1
     clear H1
     have H' := zb H
     clear H
     go_wp2
     go_loopg [4] kj3 (fun kq v4 w' => ∃ (x4_3 : Int), v4 = .int .i64 x4_3 ∧ Aside0 (spec_EventsOK.l1 kq l0 x3_1 x4_3 = some r) ∧ Aside0 (kq ≤ kj3) ∧ Aside0 (Below w.heap.size w w'))
     case atStart => exact ⟨(0), zG74, H', ⟨Nat.le_refl _⟩, ⟨zH82⟩⟩
     case round =>
      clear H'
      try clear c2
      try clear c5
      try clear c7
      try clear c8
      try clear c8b0
      try clear c10
      try clear c11
      try clear c20
      try clear hx149_0
      try clear hx149_1
      try clear hx149_2
      try clear hx149_3
      try clear hx149_4
      try clear hx149_5
      try clear hx151_0
      try clear hx151_1
      try clear hx151_2
      try clear hx151_3
      try clear hx151_4
      try clear hx151_5
      try clear hx152_0
      try clear hx152_1
      try clear hx152_2
      try clear hx152_3
      try clear hx152_4
      try clear hx152_5
      try clear p149
      try clear p152
      try clear q149
      try clear q151
      try clear q152
      obtain ⟨x4_3, rfl, HA, HK3, HB⟩ := hrel
      cases gk with
      | zero => exact absurd HA.out (by simp [spec_EventsOK.l1])
      | succ k3 =>
       have H := HA.out
       clear HA
       simp only [spec_EventsOK.l1] at H
       by_cases c21 : x4_3 < x3_1
       rotate_left
       ·rw [if_neg c21] at H
        have c21b0 := decide_eq_false c21
        clear c21
        have H' := zb H
        clear H
        go_wp2
        go_roundg k3
        case measure => have := HK1.out; have := HJ3.out; have := HK3.out; omega
        case rel => exact ⟨(wrap64 (x3_1 + 1)), zG74, H', ⟨zH96⟩, ⟨zH82⟩⟩
       rw [if_pos c21] at H
       have c21b0 := decide_eq_true c21
       clear c21
       by_cases c22 : 0 ≤ x4_3
       rotate_left
       ·rw [if_neg c22] at H
        exact absurd H (by simp)
       rw [if_pos c22] at H
       have c22b0 := decide_eq_true c22
       clear c22
       by_cases c23 : x4_3 < (l0.length : Int)
       rotate_left
       ·rw [if_neg c23] at H
        exact absurd H (by simp)
       rw [if_pos c23] at H
       have c23b0 := decide_eq_true c23
       clear c23
       by_cases c24 : 0 ≤ x3_1
       rotate_left
       ·rw [if_neg c24] at H
        exact absurd H (by simp)
       rw [if_pos c24] at H
       have c24b0 := decide_eq_true c24
       clear c24
       by_cases c25 : x3_1 < (l0.length : Int)
       rotate_left
       ·rw [if_neg c25] at H
        exact absurd H (by simp)
       rw [if_pos c25] at H
       have c25b0 := decide_eq_true c25
       clear c25
       by_cases c26 : ((rd_T35 l0 x4_3).f0) = ((rd_T35 l0 x3_1).f0)
       rotate_left
       ·rw [if_neg c26] at H
        have c26b0 : (((rd_T35 l0 x4_3).f0) == ((rd_T35 l0 x3_1).f0)) = false := beq_eq_false_iff_ne.mpr c26
        have c26b1 : (((rd_T35 l0 x4_3).f0) != ((rd_T35 l0 x3_1).f0)) = true := bne_iff_ne.mpr c26
        have H' := zb H
        clear H
        try go_wp2
        have n0_ := zb (ze HB.out)
        clear HB
        have HB := n0_
        clear n0_
        have p154 : 0 ≤ (x4_3 : Int) := zO
        have q154 : x4_3 < (l0.length : Int) := zO
        obtain ⟨ad154, e154, hx154_0, hx154_1, hx154_2, hx154_3, hx154_4, hx154_5⟩ := at_T35 HR0.out x4_3 p154 q154
        have hw154_5 := hx154_5
        have hw154_4 := hx154_4
        have hw154_3 := hx154_3
        have hw154_2 := hx154_2
        have hw154_1 := hx154_1
        have hw154_0 := hx154_0
        cases e154
        replace hx154_0 := (HB.out.cell (za w _ hx154_0)).trans hx154_0
        replace hx154_1 := (HB.out.cell (za w _ hx154_1)).trans hx154_1
        replace hx154_2 := (HB.out.cell (za w _ hx154_2)).trans hx154_2
        replace hx154_3 := (HB.out.cell (za w _ hx154_3)).trans hx154_3
        replace hx154_4 := (HB.out.cell (za w _ hx154_4)).trans hx154_4
        replace hx154_5 := (HB.out.cell (za w _ hx154_5)).trans hx154_5
        replace p154 := eq_true p154
        replace q154 := eq_true q154
        have p155 : 0 ≤ (x3_1 : Int) := zO
        have q155 : x3_1 < (l0.length : Int) := zO
        obtain ⟨ad155, e155, hx155_0, hx155_1, hx155_2, hx155_3, hx155_4, hx155_5⟩ := at_T35 HR0.out x3_1 p155 q155
        have hw155_5 := hx155_5
        have hw155_4 := hx155_4
        have hw155_3 := hx155_3
        have hw155_2 := hx155_2
        have hw155_1 := hx155_1
        have hw155_0 := hx155_0
        obtain rfl : ad154 = ad155 := (by injection e155)
        replace hx155_0 := (HB.out.cell (za w _ hx155_0)).trans hx155_0
        replace hx155_1 := (HB.out.cell (za w _ hx155_1)).trans hx155_1
        replace hx155_2 := (HB.out.cell (za w _ hx155_2)).trans hx155_2
        replace hx155_3 := (HB.out.cell (za w _ hx155_3)).trans hx155_3
        replace hx155_4 := (HB.out.cell (za w _ hx155_4)).trans hx155_4
        replace hx155_5 := (HB.out.cell (za w _ hx155_5)).trans hx155_5
        replace p155 := eq_true p155
        replace q155 := eq_true q155
        refine start_ (n := 24) (S := fun w' => w'.cell? (ad154.add ((x4_3).toNat * 6)) = some (.int .i64 ((rd_T35 l0 x4_3).f0)) ∧ w'.cell? ⟨(ad154.add ((x4_3).toNat * 6)).block, (ad154.add ((x4_3).toNat * 6)).off + 1, none⟩ = some (.int .i64 ((rd_T35 l0 x4_3).f1)) ∧ w'.cell? ⟨(ad154.add ((x4_3).toNat * 6)).block, (ad154.add ((x4_3).toNat * 6)).off + 2, none⟩ = some (.int .i64 ((rd_T35 l0 x4_3).f2)) ∧ w'.cell? ⟨(ad154.add ((x4_3).toNat * 6)).block, (ad154.add ((x4_3).toNat * 6)).off + 3, none⟩ = some (.int .i64 ((rd_T35 l0 x4_3).f3)) ∧ w'.cell? ⟨(ad154.add ((x4_3).toNat * 6)).block, (ad154.add ((x4_3).toNat * 6)).off + 4, none⟩ = some (.string ((rd_T35 l0 x4_3).f4)) ∧ w'.cell? ⟨(ad154.add ((x4_3).toNat * 6)).block, (ad154.add ((x4_3).toNat * 6)).off + 5, none⟩ = some (.int .i64 ((rd_T35 l0 x4_3).f5)) ∧ w'.cell? (ad154.add ((x3_1).toNat * 6)) = some (.int .i64 ((rd_T35 l0 x3_1).f0)) ∧ w'.cell? ⟨(ad154.add ((x3_1).toNat * 6)).block, (ad154.add ((x3_1).toNat * 6)).off + 1, none⟩ = some (.int .i64 ((rd_T35 l0 x3_1).f1)) ∧ w'.cell? ⟨(ad154.add ((x3_1).toNat * 6)).block, (ad154.add ((x3_1).toNat * 6)).off + 2, none⟩ = some (.int .i64 ((rd_T35 l0 x3_1).f2)) ∧ w'.cell? ⟨(ad154.add ((x3_1).toNat * 6)).block, (ad154.add ((x3_1).toNat * 6)).off + 3, none⟩ = some (.int .i64 ((rd_T35 l0 x3_1).f3)) ∧ w'.cell? ⟨(ad154.add ((x3_1).toNat * 6)).block, (ad154.add ((x3_1).toNat * 6)).off + 4, none⟩ = some (.string ((rd_T35 l0 x3_1).f4)) ∧ w'.cell? ⟨(ad154.add ((x3_1).toNat * 6)).block, (ad154.add ((x3_1).toNat * 6)).off + 5, none⟩ = some (.int .i64 ((rd_T35 l0 x3_1).f5))) (ds := []) b9A21 zG75 rfl rfl ⟨((HB.out.cell (za w _ hw154_0)).trans hw154_0), ((HB.out.cell (za w _ hw154_1)).trans hw154_1), ((HB.out.cell (za w _ hw154_2)).trans hw154_2), ((HB.out.cell (za w _ hw154_3)).trans hw154_3), ((HB.out.cell (za w _ hw154_4)).trans hw154_4), ((HB.out.cell (za w _ hw154_5)).trans hw154_5), ((HB.out.cell (za w _ hw155_0)).trans hw155_0), ((HB.out.cell (za w _ hw155_1)).trans hw155_1), ((HB.out.cell (za w _ hw155_2)).trans hw155_2), ((HB.out.cell (za w _ hw155_3)).trans hw155_3), ((HB.out.cell (za w _ hw155_4)).trans hw155_4), ((HB.out.cell (za w _ hw155_5)).trans hw155_5)⟩ (fun hHeld => ?_); refine with_tabW spec_EventsOK.tab11 spec_EventsOK.bits11 (fun HT_ HW_ => ?_)
        generalize wr.drew = w30 at HB hx154_0 hx154_1 hx154_2 hx154_3 hx154_4 hx154_5 hx155_0 hx155_1 hx155_2 hx155_3 hx155_4 hx155_5 hHeld ⊢
        refine zP 0 42 b9A22 HT_ ?_
        refine zP 1 43 b9A23 HT_ ?_
        refine zP 2 44 b9A24 HT_ ?_
        refine zP 3 45 b9A25 HT_ ?_
        refine zP 5 47 b9A26 HT_ ?_
        refine zP 6 48 b9A27 HT_ ?_
        refine zP 7 49 b9A28 HT_ ?_
        refine zP 8 50 b9A29 HT_ ?_
        refine zQ 4 46 b9A30 HT_ HW_ hHeld ?_
        refine zQ 9 51 b9A31 HT_ HW_ hHeld ?_
        refine zP 10 52 b9A32 HT_ ?_
        refine zP 11 53 b9A33 HT_ ?_
        refine zU 12 54 b9A34 HT_ ?_
        refine zU 13 55 b9A35 HT_ ?_
        refine zU 14 56 b9A36 HT_ ?_
        refine zU 15 57 b9A37 HT_ ?_
        refine zU 16 58 #[true, true, true, true, true, true, true, true, true, true, true, true, true, true, true, true, true, false, false, false, false, false, false, false] HT_ ?_
        refine zU 17 59 #[true, true, true, true, true, true, true, true, true, true, true, true, true, true, true, true, true, true, false, false, false, false, false, false] HT_ ?_
        refine zU 18 60 #[true, true, true, true, true, true, true, true, true, true, true, true, true, true, true, true, true, true, true, false, false, false, false, false] HT_ ?_
        refine zU 19 61 #[true, true, true, true, true, true, true, true, true, true, true, true, true, true, true, true, true, true, true, true, false, false, false, false] HT_ ?_
        refine zU 20 62 b9A38 HT_ ?_
        refine zU 21 63 b9A39 HT_ ?_
        refine zU 22 64 b9A40 HT_ ?_
        refine zP 23 65 b9A41 HT_ ?_
        refine done_ (done_of HT_.out zG75) ?_
        try go_wp2
        go_roundg k3
        case measure => have := HK1.out; have := HJ3.out; have := HK3.out; omega
        case rel => exact ⟨(wrap64 (x4_3 + 1)), zG74, H', ⟨zH96⟩, ⟨zH82⟩⟩
       rw [if_pos c26] at H
       have c26b0 : (((rd_T35 l0 x4_3).f0) == ((rd_T35 l0 x3_1).f0)) = true := beq_iff_eq.mpr c26
       have c26b1 : (((rd_T35 l0 x4_3).f0) != ((rd_T35 l0 x3_1).f0)) = false := bne_eq_false_iff_eq.mpr c26
       clear c26
       by_cases c27 : ((rd_T35 l0 x4_3).f1) ≥ ((rd_T35 l0 x3_1).f1)
       ·rw [if_pos c27] at H
        have c27b0 : decide (((rd_T35 l0 x3_1).f1) ≤ ((rd_T35 l0 x4_3).f1)) = true := decide_eq_true c27
        clear c27
        obtain rfl := Option.some.inj H
        try go_wp2
        have n0_ := zb (ze HB.out)
        clear HB
        have HB := n0_
        clear n0_
        have p154 : 0 ≤ (x4_3 : Int) := zO
        have q154 : x4_3 < (l0.length : Int) := zO
        obtain ⟨ad154, e154, hx154_0, hx154_1, hx154_2, hx154_3, hx154_4, hx154_5⟩ := at_T35 HR0.out x4_3 p154 q154
        have hw154_5 := hx154_5
        have hw154_4 := hx154_4
        have hw154_3 := hx154_3
        have hw154_2 := hx154_2
        have hw154_1 := hx154_1
        have hw154_0 := hx154_0
        cases e154
        replace hx154_0 := (HB.out.cell (za w _ hx154_0)).trans hx154_0
        replace hx154_1 := (HB.out.cell (za w _ hx154_1)).trans hx154_1
        replace hx154_2 := (HB.out.cell (za w _ hx154_2)).trans hx154_2
        replace hx154_3 := (HB.out.cell (za w _ hx154_3)).trans hx154_3
        replace hx154_4 := (HB.out.cell (za w _ hx154_4)).trans hx154_4
        replace hx154_5 := (HB.out.cell (za w _ hx154_5)).trans hx154_5
        replace p154 := eq_true p154
        replace q154 := eq_true q154
        have p155 : 0 ≤ (x3_1 : Int) := zO
        have q155 : x3_1 < (l0.length : Int) := zO
        obtain ⟨ad155, e155, hx155_0, hx155_1, hx155_2, hx155_3, hx155_4, hx155_5⟩ := at_T35 HR0.out x3_1 p155 q155
        have hw155_5 := hx155_5
        have hw155_4 := hx155_4
        have hw155_3 := hx155_3
        have hw155_2 := hx155_2
        have hw155_1 := hx155_1
        have hw155_0 := hx155_0
        obtain rfl : ad154 = ad155 := (by injection e155)
        replace hx155_0 := (HB.out.cell (za w _ hx155_0)).trans hx155_0
        replace hx155_1 := (HB.out.cell (za w _ hx155_1)).trans hx155_1
        replace hx155_2 := (HB.out.cell (za w _ hx155_2)).trans hx155_2
        replace hx155_3 := (HB.out.cell (za w _ hx155_3)).trans hx155_3
        replace hx155_4 := (HB.out.cell (za w _ hx155_4)).trans hx155_4
        replace hx155_5 := (HB.out.cell (za w _ hx155_5)).trans hx155_5
        replace p155 := eq_true p155
        replace q155 := eq_true q155
        have p156 : 0 ≤ (x4_3 : Int) := zO
        have q156 : x4_3 < (l0.length : Int) := zO
        obtain ⟨ad156, e156, hx156_0, hx156_1, hx156_2, hx156_3, hx156_4, hx156_5⟩ := at_T35 HR0.out x4_3 p156 q156
        have hw156_5 := hx156_5
        have hw156_4 := hx156_4
        have hw156_3 := hx156_3
        have hw156_2 := hx156_2
        have hw156_1 := hx156_1
        have hw156_0 := hx156_0
        obtain rfl : ad154 = ad156 := (by injection e156)
        replace hx156_0 := (HB.out.cell (za w _ hx156_0)).trans hx156_0
        replace hx156_1 := (HB.out.cell (za w _ hx156_1)).trans hx156_1
        replace hx156_2 := (HB.out.cell (za w _ hx156_2)).trans hx156_2
        replace hx156_3 := (HB.out.cell (za w _ hx156_3)).trans hx156_3
        replace hx156_4 := (HB.out.cell (za w _ hx156_4)).trans hx156_4
        replace hx156_5 := (HB.out.cell (za w _ hx156_5)).trans hx156_5
        replace p156 := eq_true p156
        replace q156 := eq_true q156
        have p157 : 0 ≤ (x3_1 : Int) := zO
        have q157 : x3_1 < (l0.length : Int) := zO
        obtain ⟨ad157, e157, hx157_0, hx157_1, hx157_2, hx157_3, hx157_4, hx157_5⟩ := at_T35 HR0.out x3_1 p157 q157
        have hw157_5 := hx157_5
        have hw157_4 := hx157_4
        have hw157_3 := hx157_3
        have hw157_2 := hx157_2
        have hw157_1 := hx157_1
        have hw157_0 := hx157_0
        obtain rfl : ad154 = ad157 := (by injection e157)
        replace hx157_0 := (HB.out.cell (za w _ hx157_0)).trans hx157_0
        replace hx157_1 := (HB.out.cell (za w _ hx157_1)).trans hx157_1
        replace hx157_2 := (HB.out.cell (za w _ hx157_2)).trans hx157_2
        replace hx157_3 := (HB.out.cell (za w _ hx157_3)).trans hx157_3
        replace hx157_4 := (HB.out.cell (za w _ hx157_4)).trans hx157_4
        replace hx157_5 := (HB.out.cell (za w _ hx157_5)).trans hx157_5
        replace p157 := eq_true p157
        replace q157 := eq_true q157
        refine start_ (n := 24) (S := fun w' => w'.cell? (ad154.add ((x4_3).toNat * 6)) = some (.int .i64 ((rd_T35 l0 x4_3).f0)) ∧ w'.cell? ⟨(ad154.add ((x4_3).toNat * 6)).block, (ad154.add ((x4_3).toNat * 6)).off + 1, none⟩ = some (.int .i64 ((rd_T35 l0 x4_3).f1)) ∧ w'.cell? ⟨(ad154.add ((x4_3).toNat * 6)).block, (ad154.add ((x4_3).toNat * 6)).off + 2, none⟩ = some (.int .i64 ((rd_T35 l0 x4_3).f2)) ∧ w'.cell? ⟨(ad154.add ((x4_3).toNat * 6)).block, (ad154.add ((x4_3).toNat * 6)).off + 3, none⟩ = some (.int .i64 ((rd_T35 l0 x4_3).f3)) ∧ w'.cell? ⟨(ad154.add ((x4_3).toNat * 6)).block, (ad154.add ((x4_3).toNat * 6)).off + 4, none⟩ = some (.string ((rd_T35 l0 x4_3).f4)) ∧ w'.cell? ⟨(ad154.add ((x4_3).toNat * 6)).block, (ad154.add ((x4_3).toNat * 6)).off + 5, none⟩ = some (.int .i64 ((rd_T35 l0 x4_3).f5)) ∧ w'.cell? (ad154.add ((x3_1).toNat * 6)) = some (.int .i64 ((rd_T35 l0 x3_1).f0)) ∧ w'.cell? ⟨(ad154.add ((x3_1).toNat * 6)).block, (ad154.add ((x3_1).toNat * 6)).off + 1, none⟩ = some (.int .i64 ((rd_T35 l0 x3_1).f1)) ∧ w'.cell? ⟨(ad154.add ((x3_1).toNat * 6)).block, (ad154.add ((x3_1).toNat * 6)).off + 2, none⟩ = some (.int .i64 ((rd_T35 l0 x3_1).f2)) ∧ w'.cell? ⟨(ad154.add ((x3_1).toNat * 6)).block, (ad154.add ((x3_1).toNat * 6)).off + 3, none⟩ = some (.int .i64 ((rd_T35 l0 x3_1).f3)) ∧ w'.cell? ⟨(ad154.add ((x3_1).toNat * 6)).block, (ad154.add ((x3_1).toNat * 6)).off + 4, none⟩ = some (.string ((rd_T35 l0 x3_1).f4)) ∧ w'.cell? ⟨(ad154.add ((x3_1).toNat * 6)).block, (ad154.add ((x3_1).toNat * 6)).off + 5, none⟩ = some (.int .i64 ((rd_T35 l0 x3_1).f5)) ∧ w'.cell? (ad154.add ((x4_3).toNat * 6)) = some (.int .i64 ((rd_T35 l0 x4_3).f0)) ∧ w'.cell? ⟨(ad154.add ((x4_3).toNat * 6)).block, (ad154.add ((x4_3).toNat * 6)).off + 1, none⟩ = some (.int .i64 ((rd_T35 l0 x4_3).f1)) ∧ w'.cell? ⟨(ad154.add ((x4_3).toNat * 6)).block, (ad154.add ((x4_3).toNat * 6)).off + 2, none⟩ = some (.int .i64 ((rd_T35 l0 x4_3).f2)) ∧ w'.cell? ⟨(ad154.add ((x4_3).toNat * 6)).block, (ad154.add ((x4_3).toNat * 6)).off + 3, none⟩ = some (.int .i64 ((rd_T35 l0 x4_3).f3)) ∧ w'.cell? ⟨(ad154.add ((x4_3).toNat * 6)).block, (ad154.add ((x4_3).toNat * 6)).off + 4, none⟩ = some (.string ((rd_T35 l0 x4_3).f4)) ∧ w'.cell? ⟨(ad154.add ((x4_3).toNat * 6)).block, (ad154.add ((x4_3).toNat * 6)).off + 5, none⟩ = some (.int .i64 ((rd_T35 l0 x4_3).f5)) ∧ w'.cell? (ad154.add ((x3_1).toNat * 6)) = some (.int .i64 ((rd_T35 l0 x3_1).f0)) ∧ w'.cell? ⟨(ad154.add ((x3_1).toNat * 6)).block, (ad154.add ((x3_1).toNat * 6)).off + 1, none⟩ = some (.int .i64 ((rd_T35 l0 x3_1).f1)) ∧ w'.cell? ⟨(ad154.add ((x3_1).toNat * 6)).block, (ad154.add ((x3_1).toNat * 6)).off + 2, none⟩ = some (.int .i64 ((rd_T35 l0 x3_1).f2)) ∧ w'.cell? ⟨(ad154.add ((x3_1).toNat * 6)).block, (ad154.add ((x3_1).toNat * 6)).off + 3, none⟩ = some (.int .i64 ((rd_T35 l0 x3_1).f3)) ∧ w'.cell? ⟨(ad154.add ((x3_1).toNat * 6)).block, (ad154.add ((x3_1).toNat * 6)).off + 4, none⟩ = some (.string ((rd_T35 l0 x3_1).f4)) ∧ w'.cell? ⟨(ad154.add ((x3_1).toNat * 6)).block, (ad154.add ((x3_1).toNat * 6)).off + 5, none⟩ = some (.int .i64 ((rd_T35 l0 x3_1).f5))) (ds := []) b9A21 zG75 rfl rfl ⟨((HB.out.cell (za w _ hw154_0)).trans hw154_0), ((HB.out.cell (za w _ hw154_1)).trans hw154_1), ((HB.out.cell (za w _ hw154_2)).trans hw154_2), ((HB.out.cell (za w _ hw154_3)).trans hw154_3), ((HB.out.cell (za w _ hw154_4)).trans hw154_4), ((HB.out.cell (za w _ hw154_5)).trans hw154_5), ((HB.out.cell (za w _ hw155_0)).trans hw155_0), ((HB.out.cell (za w _ hw155_1)).trans hw155_1), ((HB.out.cell (za w _ hw155_2)).trans hw155_2), ((HB.out.cell (za w _ hw155_3)).trans hw155_3), ((HB.out.cell (za w _ hw155_4)).trans hw155_4), ((HB.out.cell (za w _ hw155_5)).trans hw155_5), ((HB.out.cell (za w _ hw156_0)).trans hw156_0), ((HB.out.cell (za w _ hw156_1)).trans hw156_1), ((HB.out.cell (za w _ hw156_2)).trans hw156_2), ((HB.out.cell (za w _ hw156_3)).trans hw156_3), ((HB.out.cell (za w _ hw156_4)).trans hw156_4), ((HB.out.cell (za w _ hw156_5)).trans hw156_5), ((HB.out.cell (za w _ hw157_0)).trans hw157_0), ((HB.out.cell (za w _ hw157_1)).trans hw157_1), ((HB.out.cell (za w _ hw157_2)).trans hw157_2), ((HB.out.cell (za w _ hw157_3)).trans hw157_3), ((HB.out.cell (za w _ hw157_4)).trans hw157_4), ((HB.out.cell (za w _ hw157_5)).trans hw157_5)⟩ (fun hHeld => ?_); refine with_tabW spec_EventsOK.tab11 spec_EventsOK.bits11 (fun HT_ HW_ => ?_)
        generalize wr.drew = w28 at HB hx154_0 hx154_1 hx154_2 hx154_3 hx154_4 hx154_5 hx155_0 hx155_1 hx155_2 hx155_3 hx155_4 hx155_5 hx156_0 hx156_1 hx156_2 hx156_3 hx156_4 hx156_5 hx157_0 hx157_1 hx157_2 hx157_3 hx157_4 hx157_5 hHeld ⊢
        refine zP 0 42 b9A22 HT_ ?_
        refine zP 1 43 b9A23 HT_ ?_
        refine zP 2 44 b9A24 HT_ ?_
        refine zP 3 45 b9A25 HT_ ?_
        refine zP 5 47 b9A26 HT_ ?_
        refine zP 6 48 b9A27 HT_ ?_
        refine zP 7 49 b9A28 HT_ ?_
        refine zP 8 50 b9A29 HT_ ?_
        refine zQ 4 46 b9A30 HT_ HW_ hHeld ?_
        refine zQ 9 51 b9A31 HT_ HW_ hHeld ?_
        refine zP 10 52 b9A32 HT_ ?_
        refine zP 11 53 b9A33 HT_ ?_
        refine zP 12 54 b9A34 HT_ ?_
        refine zP 13 55 b9A35 HT_ ?_
        refine zP 14 56 b9A36 HT_ ?_
        refine zP 15 57 b9A37 HT_ ?_
        refine zP 17 59 b9A45 HT_ ?_
        refine zP 18 60 b9A46 HT_ ?_
        refine zP 19 61 b9A47 HT_ ?_
        refine zP 20 62 b9A48 HT_ ?_
        refine zQ 16 58 b9A38 HT_ HW_ hHeld ?_
        refine zQ 21 63 b9A39 HT_ HW_ hHeld ?_
        refine zP 22 64 b9A40 HT_ ?_
        refine zP 23 65 b9A41 HT_ ?_
        refine done_ (done_of HT_.out zG75) ?_
        try go_wp2
        go_ret
        exact zH32
       rw [if_neg c27] at H
       have c27b0 : decide (((rd_T35 l0 x3_1).f1) ≤ ((rd_T35 l0 x4_3).f1)) = false := decide_eq_false c27
       clear c27
       have H' := zb H
       clear H
       try go_wp2
       have n0_ := zb (ze HB.out)
       clear HB
       have HB := n0_
       clear n0_
       have p154 : 0 ≤ (x4_3 : Int) := zO
       have q154 : x4_3 < (l0.length : Int) := zO
       obtain ⟨ad154, e154, hx154_0, hx154_1, hx154_2, hx154_3, hx154_4, hx154_5⟩ := at_T35 HR0.out x4_3 p154 q154
       have hw154_5 := hx154_5
       have hw154_4 := hx154_4
       have hw154_3 := hx154_3
       have hw154_2 := hx154_2
       have hw154_1 := hx154_1
       have hw154_0 := hx154_0
       cases e154
       replace hx154_0 := (HB.out.cell (za w _ hx154_0)).trans hx154_0
       replace hx154_1 := (HB.out.cell (za w _ hx154_1)).trans hx154_1
       replace hx154_2 := (HB.out.cell (za w _ hx154_2)).trans hx154_2
       replace hx154_3 := (HB.out.cell (za w _ hx154_3)).trans hx154_3
       replace hx154_4 := (HB.out.cell (za w _ hx154_4)).trans hx154_4
       replace hx154_5 := (HB.out.cell (za w _ hx154_5)).trans hx154_5
       replace p154 := eq_true p154
       replace q154 := eq_true q154
       have p155 : 0 ≤ (x3_1 : Int) := zO
       have q155 : x3_1 < (l0.length : Int) := zO
       obtain ⟨ad155, e155, hx155_0, hx155_1, hx155_2, hx155_3, hx155_4, hx155_5⟩ := at_T35 HR0.out x3_1 p155 q155
       have hw155_5 := hx155_5
       have hw155_4 := hx155_4
       have hw155_3 := hx155_3
       have hw155_2 := hx155_2
       have hw155_1 := hx155_1
       have hw155_0 := hx155_0
       obtain rfl : ad154 = ad155 := (by injection e155)
       replace hx155_0 := (HB.out.cell (za w _ hx155_0)).trans hx155_0
       replace hx155_1 := (HB.out.cell (za w _ hx155_1)).trans hx155_1
       replace hx155_2 := (HB.out.cell (za w _ hx155_2)).trans hx155_2
       replace hx155_3 := (HB.out.cell (za w _ hx155_3)).trans hx155_3
       replace hx155_4 := (HB.out.cell (za w _ hx155_4)).trans hx155_4
       replace hx155_5 := (HB.out.cell (za w _ hx155_5)).trans hx155_5
       replace p155 := eq_true p155
       replace q155 := eq_true q155
       have p156 : 0 ≤ (x4_3 : Int) := zO
       have q156 : x4_3 < (l0.length : Int) := zO
       obtain ⟨ad156, e156, hx156_0, hx156_1, hx156_2, hx156_3, hx156_4, hx156_5⟩ := at_T35 HR0.out x4_3 p156 q156
       have hw156_5 := hx156_5
       have hw156_4 := hx156_4
       have hw156_3 := hx156_3
       have hw156_2 := hx156_2
       have hw156_1 := hx156_1
       have hw156_0 := hx156_0
       obtain rfl : ad154 = ad156 := (by injection e156)
       replace hx156_0 := (HB.out.cell (za w _ hx156_0)).trans hx156_0
       replace hx156_1 := (HB.out.cell (za w _ hx156_1)).trans hx156_1
       replace hx156_2 := (HB.out.cell (za w _ hx156_2)).trans hx156_2
       replace hx156_3 := (HB.out.cell (za w _ hx156_3)).trans hx156_3
       replace hx156_4 := (HB.out.cell (za w _ hx156_4)).trans hx156_4
       replace hx156_5 := (HB.out.cell (za w _ hx156_5)).trans hx156_5
       replace p156 := eq_true p156
       replace q156 := eq_true q156
       have p157 : 0 ≤ (x3_1 : Int) := zO
       have q157 : x3_1 < (l0.length : Int) := zO
       obtain ⟨ad157, e157, hx157_0, hx157_1, hx157_2, hx157_3, hx157_4, hx157_5⟩ := at_T35 HR0.out x3_1 p157 q157
       have hw157_5 := hx157_5
       have hw157_4 := hx157_4
       have hw157_3 := hx157_3
       have hw157_2 := hx157_2
       have hw157_1 := hx157_1
       have hw157_0 := hx157_0
       obtain rfl : ad154 = ad157 := (by injection e157)
       replace hx157_0 := (HB.out.cell (za w _ hx157_0)).trans hx157_0
       replace hx157_1 := (HB.out.cell (za w _ hx157_1)).trans hx157_1
       replace hx157_2 := (HB.out.cell (za w _ hx157_2)).trans hx157_2
       replace hx157_3 := (HB.out.cell (za w _ hx157_3)).trans hx157_3
       replace hx157_4 := (HB.out.cell (za w _ hx157_4)).trans hx157_4
       replace hx157_5 := (HB.out.cell (za w _ hx157_5)).trans hx157_5
       replace p157 := eq_true p157
       replace q157 := eq_true q157
       refine start_ (n := 24) (S := fun w' => w'.cell? (ad154.add ((x4_3).toNat * 6)) = some (.int .i64 ((rd_T35 l0 x4_3).f0)) ∧ w'.cell? ⟨(ad154.add ((x4_3).toNat * 6)).block, (ad154.add ((x4_3).toNat * 6)).off + 1, none⟩ = some (.int .i64 ((rd_T35 l0 x4_3).f1)) ∧ w'.cell? ⟨(ad154.add ((x4_3).toNat * 6)).block, (ad154.add ((x4_3).toNat * 6)).off + 2, none⟩ = some (.int .i64 ((rd_T35 l0 x4_3).f2)) ∧ w'.cell? ⟨(ad154.add ((x4_3).toNat * 6)).block, (ad154.add ((x4_3).toNat * 6)).off + 3, none⟩ = some (.int .i64 ((rd_T35 l0 x4_3).f3)) ∧ w'.cell? ⟨(ad154.add ((x4_3).toNat * 6)).block, (ad154.add ((x4_3).toNat * 6)).off + 4, none⟩ = some (.string ((rd_T35 l0 x4_3).f4)) ∧ w'.cell? ⟨(ad154.add ((x4_3).toNat * 6)).block, (ad154.add ((x4_3).toNat * 6)).off + 5, none⟩ = some (.int .i64 ((rd_T35 l0 x4_3).f5)) ∧ w'.cell? (ad154.add ((x3_1).toNat * 6)) = some (.int .i64 ((rd_T35 l0 x3_1).f0)) ∧ w'.cell? ⟨(ad154.add ((x3_1).toNat * 6)).block, (ad154.add ((x3_1).toNat * 6)).off + 1, none⟩ = some (.int .i64 ((rd_T35 l0 x3_1).f1)) ∧ w'.cell? ⟨(ad154.add ((x3_1).toNat * 6)).block, (ad154.add ((x3_1).toNat * 6)).off + 2, none⟩ = some (.int .i64 ((rd_T35 l0 x3_1).f2)) ∧ w'.cell? ⟨(ad154.add ((x3_1).toNat * 6)).block, (ad154.add ((x3_1).toNat * 6)).off + 3, none⟩ = some (.int .i64 ((rd_T35 l0 x3_1).f3)) ∧ w'.cell? ⟨(ad154.add ((x3_1).toNat * 6)).block, (ad154.add ((x3_1).toNat * 6)).off + 4, none⟩ = some (.string ((rd_T35 l0 x3_1).f4)) ∧ w'.cell? ⟨(ad154.add ((x3_1).toNat * 6)).block, (ad154.add ((x3_1).toNat * 6)).off + 5, none⟩ = some (.int .i64 ((rd_T35 l0 x3_1).f5)) ∧ w'.cell? (ad154.add ((x4_3).toNat * 6)) = some (.int .i64 ((rd_T35 l0 x4_3).f0)) ∧ w'.cell? ⟨(ad154.add ((x4_3).toNat * 6)).block, (ad154.add ((x4_3).toNat * 6)).off + 1, none⟩ = some (.int .i64 ((rd_T35 l0 x4_3).f1)) ∧ w'.cell? ⟨(ad154.add ((x4_3).toNat * 6)).block, (ad154.add ((x4_3).toNat * 6)).off + 2, none⟩ = some (.int .i64 ((rd_T35 l0 x4_3).f2)) ∧ w'.cell? ⟨(ad154.add ((x4_3).toNat * 6)).block, (ad154.add ((x4_3).toNat * 6)).off + 3, none⟩ = some (.int .i64 ((rd_T35 l0 x4_3).f3)) ∧ w'.cell? ⟨(ad154.add ((x4_3).toNat * 6)).block, (ad154.add ((x4_3).toNat * 6)).off + 4, none⟩ = some (.string ((rd_T35 l0 x4_3).f4)) ∧ w'.cell? ⟨(ad154.add ((x4_3).toNat * 6)).block, (ad154.add ((x4_3).toNat * 6)).off + 5, none⟩ = some (.int .i64 ((rd_T35 l0 x4_3).f5)) ∧ w'.cell? (ad154.add ((x3_1).toNat * 6)) = some (.int .i64 ((rd_T35 l0 x3_1).f0)) ∧ w'.cell? ⟨(ad154.add ((x3_1).toNat * 6)).block, (ad154.add ((x3_1).toNat * 6)).off + 1, none⟩ = some (.int .i64 ((rd_T35 l0 x3_1).f1)) ∧ w'.cell? ⟨(ad154.add ((x3_1).toNat * 6)).block, (ad154.add ((x3_1).toNat * 6)).off + 2, none⟩ = some (.int .i64 ((rd_T35 l0 x3_1).f2)) ∧ w'.cell? ⟨(ad154.add ((x3_1).toNat * 6)).block, (ad154.add ((x3_1).toNat * 6)).off + 3, none⟩ = some (.int .i64 ((rd_T35 l0 x3_1).f3)) ∧ w'.cell? ⟨(ad154.add ((x3_1).toNat * 6)).block, (ad154.add ((x3_1).toNat * 6)).off + 4, none⟩ = some (.string ((rd_T35 l0 x3_1).f4)) ∧ w'.cell? ⟨(ad154.add ((x3_1).toNat * 6)).block, (ad154.add ((x3_1).toNat * 6)).off + 5, none⟩ = some (.int .i64 ((rd_T35 l0 x3_1).f5))) (ds := []) b9A21 zG75 rfl rfl ⟨((HB.out.cell (za w _ hw154_0)).trans hw154_0), ((HB.out.cell (za w _ hw154_1)).trans hw154_1), ((HB.out.cell (za w _ hw154_2)).trans hw154_2), ((HB.out.cell (za w _ hw154_3)).trans hw154_3), ((HB.out.cell (za w _ hw154_4)).trans hw154_4), ((HB.out.cell (za w _ hw154_5)).trans hw154_5), ((HB.out.cell (za w _ hw155_0)).trans hw155_0), ((HB.out.cell (za w _ hw155_1)).trans hw155_1), ((HB.out.cell (za w _ hw155_2)).trans hw155_2), ((HB.out.cell (za w _ hw155_3)).trans hw155_3), ((HB.out.cell (za w _ hw155_4)).trans hw155_4), ((HB.out.cell (za w _ hw155_5)).trans hw155_5), ((HB.out.cell (za w _ hw156_0)).trans hw156_0), ((HB.out.cell (za w _ hw156_1)).trans hw156_1), ((HB.out.cell (za w _ hw156_2)).trans hw156_2), ((HB.out.cell (za w _ hw156_3)).trans hw156_3), ((HB.out.cell (za w _ hw156_4)).trans hw156_4), ((HB.out.cell (za w _ hw156_5)).trans hw156_5), ((HB.out.cell (za w _ hw157_0)).trans hw157_0), ((HB.out.cell (za w _ hw157_1)).trans hw157_1), ((HB.out.cell (za w _ hw157_2)).trans hw157_2), ((HB.out.cell (za w _ hw157_3)).trans hw157_3), ((HB.out.cell (za w _ hw157_4)).trans hw157_4), ((HB.out.cell (za w _ hw157_5)).trans hw157_5)⟩ (fun hHeld => ?_); refine with_tabW spec_EventsOK.tab11 spec_EventsOK.bits11 (fun HT_ HW_ => ?_)
       generalize wr.drew = w29 at HB hx154_0 hx154_1 hx154_2 hx154_3 hx154_4 hx154_5 hx155_0 hx155_1 hx155_2 hx155_3 hx155_4 hx155_5 hx156_0 hx156_1 hx156_2 hx156_3 hx156_4 hx156_5 hx157_0 hx157_1 hx157_2 hx157_3 hx157_4 hx157_5 hHeld ⊢
       refine zP 0 42 b9A22 HT_ ?_
       refine zP 1 43 b9A23 HT_ ?_
       refine zP 2 44 b9A24 HT_ ?_
       refine zP 3 45 b9A25 HT_ ?_
       refine zP 5 47 b9A26 HT_ ?_
       refine zP 6 48 b9A27 HT_ ?_
       refine zP 7 49 b9A28 HT_ ?_
       refine zP 8 50 b9A29 HT_ ?_
       refine zQ 4 46 b9A30 HT_ HW_ hHeld ?_
       refine zQ 9 51 b9A31 HT_ HW_ hHeld ?_
       refine zP 10 52 b9A32 HT_ ?_
       refine zP 11 53 b9A33 HT_ ?_
       refine zP 12 54 b9A34 HT_ ?_
       refine zP 13 55 b9A35 HT_ ?_
       refine zP 14 56 b9A36 HT_ ?_
       refine zP 15 57 b9A37 HT_ ?_
       refine zP 17 59 b9A45 HT_ ?_
       refine zP 18 60 b9A46 HT_ ?_
       refine zP 19 61 b9A47 HT_ ?_
       refine zP 20 62 b9A48 HT_ ?_
       refine zQ 16 58 b9A38 HT_ HW_ hHeld ?_
       refine zQ 21 63 b9A39 HT_ HW_ hHeld ?_
       refine zP 22 64 b9A40 HT_ ?_
       refine zP 23 65 b9A41 HT_ ?_
       refine done_ (done_of HT_.out zG75) ?_
       try go_wp2
       go_roundg k3
       case measure => have := HK1.out; have := HJ3.out; have := HK3.out; omega
       case rel => exact ⟨(wrap64 (x4_3 + 1)), zG74, H', ⟨zH96⟩, ⟨zH82⟩⟩
end Go.Proofs.Ytoibmbkmpadmnaa.G
