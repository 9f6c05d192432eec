-- squeezed
-- made by pp.py (wip/tools) out of the translation; Lean checks it
import Derived.Test.YtoibmbkmpadmnaaG0
import Derived.Test.YtoibmbkmpadmnaaG9
import Derived.Test.YtoibmbkmpadmnaaG10
namespace Go.Proofs.Ytoibmbkmpadmnaa.G
open Go.RowKit Go.Proofs.YtoibmbkmpadmnaaW.PrintWords Go.Proofs.YtoibmbkmpadmnaaW.PrintLast Go.Proofs.YtoibmbkmpadmnaaW.PrintMore
attribute [local go_sem] max2_int min2_int max_two min_two max_three min_three max_four min_four   -- for this text's walks alone
set_option linter.unusedVariables false
set_option linter.unusedSimpArgs false

abbrev b11A0 := zM 19 0
abbrev b11A1 := zM 19 1
abbrev b11A2 := zM 19 5
abbrev b11A3 := zM 19 13
abbrev b11A4 := zM 19 45
abbrev b11A5 := zM 19 557
abbrev b11A6 := zM 19 2605
abbrev b11A7 := zM 19 2607
abbrev b11A8 := zM 19 2623
abbrev b11A9 := zM 19 2687
abbrev b11A10 := zM 19 2815
abbrev b11A11 := zM 19 3071
abbrev b11A12 := zM 19 4095
abbrev b11A13 := zM 19 8191
abbrev b11A14 := zM 19 16383
abbrev b11A15 := zM 19 32767
abbrev b11A16 := zM 19 65535
abbrev b11A17 := zM 19 131071
abbrev b11A18 := zM 19 262143
abbrev b11A19 := zM 19 524287
abbrev b11A20 := zM 12 0
abbrev b11A21 := zM 12 1
abbrev b11A22 := zM 12 5
abbrev b11A23 := zM 12 69
abbrev b11A24 := zM 12 71
abbrev b11A25 := zM 12 79
abbrev b11A26 := zM 12 95
abbrev b11A27 := zM 12 127
abbrev b11A28 := zM 12 255
abbrev b11A29 := zM 12 511
abbrev b11A30 := zM 12 1023
abbrev b11A31 := zM 12 2047
abbrev b11A32 := zM 12 4095
abbrev b11A33 := zM 9 0
abbrev b11A34 := zM 9 1
abbrev b11A35 := zM 9 5
abbrev b11A36 := zM 9 21
abbrev b11A37 := zM 9 23
abbrev b11A38 := zM 9 31
abbrev b11A39 := zM 9 63
abbrev b11A40 := zM 9 127
abbrev b11A41 := zM 9 255
abbrev b11A42 := zM 9 511
abbrev q11a := @blk_cell
/-! ### spec_LedgerOf: function 11 -/
mutual
def spec_LedgerOf.l0 : Nat → List (S35) → Int → List (S39) → List ByteArray → List Int → Option ((List (S39)) × List ByteArray × List Int × Int)
 | 0, _, _, _, _, _ => none
 | k + 1, x0, x5, x163000, x163001, x163002 => if x5 < (x0.length : Int) then (if 0 ≤ x5 then (if ((rd_T35 x0 x5).f3) = 3 then ((spec_l00Has.f k x163001 ((rd_T35 x0 x5).f4)).bind fun t165 => (if t165 = true then (if x163002.length < 17592186044416 then (spec_LedgerOf.l0 k x0 (wrap64 (x5 + 1)) x163000 x163001 (x163002 ++ [x5])) else (none)) else (if x163001.length < 8796093022208 then (spec_LedgerOf.l0 k x0 (wrap64 (x5 + 1)) x163000 (x163001 ++ [(rd_T35 x0 x5).f4]) x163002) else (none)))) else ((spec_l12Card.f k x163000 ((rd_T35 x0 x5).f4)).bind fun t172 => (if t172 < 0 then (if x163000.length < 3518437208883 then (spec_LedgerOf.j1 k x0 x5 (x163000.length : Int) (x163000 ++ [(⟨(rd_T35 x0 x5).f4, 0, 0, 0⟩ : S39)]) x163001 x163002 ((rd_T35 x0 x5).f0) ((rd_T35 x0 x5).f1) ((rd_T35 x0 x5).f2) ((rd_T35 x0 x5).f3) ((rd_T35 x0 x5).f4) ((rd_T35 x0 x5).f5)) else (none)) else (spec_LedgerOf.j1 k x0 x5 t172 x163000 x163001 x163002 ((rd_T35 x0 x5).f0) ((rd_T35 x0 x5).f1) ((rd_T35 x0 x5).f2) ((rd_T35 x0 x5).f3) ((rd_T35 x0 x5).f4) ((rd_T35 x0 x5).f5))))) else (none)) else (some (x163000, x163001, x163002, 0))
def spec_LedgerOf.j1 : Nat → List (S35) → Int → Int → List (S39) → List ByteArray → List Int → Int → Int → Int → Int → ByteArray → Int → Option ((List (S39)) × List ByteArray × List Int × Int)
 | 0, _, _, _, _, _, _, _, _, _, _, _, _ => none
 | k + 1, x0, x5, x7, x163000, x163001, x163002, x165000, x165001, x165002, x165003, x165004, x165005 => if x165003 = 1 then (if 0 ≤ x7 then (if x7 < (x163000.length : Int) then ((some (x163000.set (x7 : Int).toNat (⟨(rd_T39 x163000 x7).f0, (rd_T39 x163000 x7).f1, wrap64 (((rd_T39 x163000 x7).f2) + x165005), (rd_T39 x163000 x7).f3⟩ : S39) : List (S39))).bind fun y177 => (spec_LedgerOf.l0 k x0 (wrap64 (x5 + 1)) (y177.set (x7 : Int).toNat (⟨(rd_T39 y177 x7).f0, wrap64 (((rd_T39 y177 x7).f2) - ((rd_T39 y177 x7).f3)), (rd_T39 y177 x7).f2, (rd_T39 y177 x7).f3⟩ : S39)) x163001 x163002)) else (none)) else (none)) else (if 0 ≤ x7 then (if x7 < (x163000.length : Int) then (if x165005 > ((rd_T39 x163000 x7).f1) then (if x163002.length < 17592186044416 then (spec_LedgerOf.l0 k x0 (wrap64 (x5 + 1)) (x163000.set (x7 : Int).toNat (⟨(rd_T39 x163000 x7).f0, wrap64 (((rd_T39 x163000 x7).f2) - ((rd_T39 x163000 x7).f3)), (rd_T39 x163000 x7).f2, (rd_T39 x163000 x7).f3⟩ : S39)) x163001 (x163002 ++ [x5])) else (none)) else ((some (x163000.set (x7 : Int).toNat (⟨(rd_T39 x163000 x7).f0, (rd_T39 x163000 x7).f1, (rd_T39 x163000 x7).f2, wrap64 (((rd_T39 x163000 x7).f3) + x165005)⟩ : S39) : List (S39))).bind fun y189 => (spec_LedgerOf.l0 k x0 (wrap64 (x5 + 1)) (y189.set (x7 : Int).toNat (⟨(rd_T39 y189 x7).f0, wrap64 (((rd_T39 y189 x7).f2) - ((rd_T39 y189 x7).f3)), (rd_T39 y189 x7).f2, (rd_T39 y189 x7).f3⟩ : S39)) x163001 x163002))) else (none)) else (none))
end
def spec_LedgerOf.f (k : Nat) (l0 : List (S35)) : Option ((List (S39)) × List ByteArray × List Int × Int) := if (l0.length : Int) > 4096 then (some (([] : List (S39)), ([] : List ByteArray), ([] : List Int), 2)) else ((spec_EventsOK.f k l0).bind fun t161 => (if t161 = true then (spec_LedgerOf.l0 k l0 0 ([] : List (S39)) ([] : List ByteArray) ([] : List Int)) else (some (([] : List (S39)), ([] : List ByteArray), ([] : List Int), 1))))
theorem spec_LedgerOf.mono_l : ∀ k, (∀ y0 y1 y2 y3 y4, LeO (spec_LedgerOf.l0 k y0 y1 y2 y3 y4) (spec_LedgerOf.l0 (k + 1) y0 y1 y2 y3 y4)) ∧ (∀ y0 y1 y2 y3 y4 y5 y6 y7 y8 y9 y10 y11, LeO (spec_LedgerOf.j1 k y0 y1 y2 y3 y4 y5 y6 y7 y8 y9 y10 y11) (spec_LedgerOf.j1 (k + 1) y0 y1 y2 y3 y4 y5 y6 y7 y8 y9 y10 y11))
 | 0 => ⟨fun _ _ _ _ _ r h => by simp [spec_LedgerOf.l0] at h, fun _ _ _ _ _ _ _ _ _ _ _ _ r h => by simp [spec_LedgerOf.j1] at h⟩
 | k + 1 => by
  obtain ⟨ih0, ih1⟩ := spec_LedgerOf.mono_l k
  refine ⟨?_, ?_⟩
  ·intro y0 y1 y2 y3 y4
   unfold spec_LedgerOf.l0
   repeat' first
   | (with_reducible exact ih0 _ _ _ _ _)
   | (with_reducible exact ih1 _ _ _ _ _ _ _ _ _ _ _ _)
   | (with_reducible exact spec_EventsOK.mono _ _)
   | (with_reducible exact spec_l00Has.mono _ _ _)
   | (with_reducible exact spec_l12Card.mono _ _ _)
   | (with_reducible exact LeO.refl _)
   | (with_reducible exact LeO.none _)
   | (with_reducible refine LeO.ite ?_ ?_)
   | (with_reducible refine LeO.bind ?_ (fun _ => ?_))
   | exact ih0 _ _ _ _ _
   | exact ih1 _ _ _ _ _ _ _ _ _ _ _ _
   | exact spec_EventsOK.mono _ _
   | exact spec_l00Has.mono _ _ _
   | exact spec_l12Card.mono _ _ _
   | exact LeO.none _
   | refine LeO.ite ?_ ?_
   | refine LeO.bind ?_ (fun _ => ?_)
  ·intro y0 y1 y2 y3 y4 y5 y6 y7 y8 y9 y10 y11
   unfold spec_LedgerOf.j1
   repeat' first
   | (with_reducible exact ih0 _ _ _ _ _)
   | (with_reducible exact ih1 _ _ _ _ _ _ _ _ _ _ _ _)
   | (with_reducible exact spec_EventsOK.mono _ _)
   | (with_reducible exact spec_l00Has.mono _ _ _)
   | (with_reducible exact spec_l12Card.mono _ _ _)
   | (with_reducible exact LeO.refl _)
   | (with_reducible exact LeO.none _)
   | (with_reducible refine LeO.ite ?_ ?_)
   | (with_reducible refine LeO.bind ?_ (fun _ => ?_))
   | exact ih0 _ _ _ _ _
   | exact ih1 _ _ _ _ _ _ _ _ _ _ _ _
   | exact spec_EventsOK.mono _ _
   | exact spec_l00Has.mono _ _ _
   | exact spec_l12Card.mono _ _ _
   | exact LeO.none _
   | refine LeO.ite ?_ ?_
   | refine LeO.bind ?_ (fun _ => ?_)
theorem spec_LedgerOf.mono : ∀ a0 k, LeO (spec_LedgerOf.f k a0) (spec_LedgerOf.f (k + 1) a0) := by
 intro a0 k
 obtain ⟨ih0, ih1⟩ := spec_LedgerOf.mono_l k
 unfold spec_LedgerOf.f
 repeat' first
   | (with_reducible exact ih0 _ _ _ _ _)
   | (with_reducible exact ih1 _ _ _ _ _ _ _ _ _ _ _ _)
   | (with_reducible exact spec_EventsOK.mono _ _)
   | (with_reducible exact spec_l00Has.mono _ _ _)
   | (with_reducible exact spec_l12Card.mono _ _ _)
   | (with_reducible exact LeO.refl _)
   | (with_reducible exact LeO.none _)
   | (with_reducible refine LeO.ite ?_ ?_)
   | (with_reducible refine LeO.bind ?_ (fun _ => ?_))
   | exact ih0 _ _ _ _ _
   | exact ih1 _ _ _ _ _ _ _ _ _ _ _ _
   | exact spec_EventsOK.mono _ _
   | exact spec_l00Has.mono _ _ _
   | exact spec_l12Card.mono _ _ _
   | exact LeO.none _
   | refine LeO.ite ?_ ?_
   | refine LeO.bind ?_ (fun _ => ?_)
def spec_LedgerOf.T19 : Bool × List (List Nat × List Nat) := (true, [([], []), ([0], [0]), ([], []), ([1, 2], [1, 2]), ([3], [3]), ([4], [4]), ([], []), ([6], [6]), ([5, 7], [5, 7]), ([1, 2, 0, 1, 2, 3, 4, 5, 6, 7, 8], [1, 2]), ([9, 0, 1, 2, 3, 4, 5, 6, 7, 8], [9]), ([10, 8, 0, 1, 2, 3, 4, 5, 6, 7, 8], [8, 10])])
def spec_LedgerOf.B19 : List Nat := [0, 1, 0, 7, 15, 31, 0, 64, 255, 511, 1023, 2047]
theorem spec_LedgerOf.tab19 : rtab .any (opsOf Try.f11 19) = spec_LedgerOf.T19 := by kernel_rfl
theorem spec_LedgerOf.bits19 : waitsOk spec_LedgerOf.T19.2 spec_LedgerOf.B19 = true := by kernel_rfl
def spec_LedgerOf.T20 : Bool × List (List Nat × List Nat) := (true, [([], []), ([0], [0]), ([], []), ([2], [2]), ([], []), ([3, 4], [3, 4]), ([5], [5]), ([6], [6]), ([1, 7], [1, 7])])
def spec_LedgerOf.B20 : List Nat := [0, 1, 0, 4, 0, 28, 60, 124, 255]
theorem spec_LedgerOf.tab20 : rtab .any (opsOf Try.f11 20) = spec_LedgerOf.T20 := by kernel_rfl
theorem spec_LedgerOf.bits20 : waitsOk spec_LedgerOf.T20.2 spec_LedgerOf.B20 = true := by kernel_rfl
def spec_LedgerOf.T22 : Bool × List (List Nat × List Nat) := (true, [([], []), ([0], [0]), ([], []), ([1, 2], [1, 2]), ([3], [3]), ([4], [4]), ([], []), ([6], [6]), ([5, 7], [5, 7]), ([1, 2, 0, 1, 2, 3, 4, 5, 6, 7, 8], [1, 2]), ([9, 0, 1, 2, 3, 4, 5, 6, 7, 8], [9]), ([10, 8, 0, 1, 2, 3, 4, 5, 6, 7, 8], [8, 10])])
def spec_LedgerOf.B22 : List Nat := [0, 1, 0, 7, 15, 31, 0, 64, 255, 511, 1023, 2047]
theorem spec_LedgerOf.tab22 : rtab .any (opsOf Try.f11 22) = spec_LedgerOf.T22 := by kernel_rfl
theorem spec_LedgerOf.bits22 : waitsOk spec_LedgerOf.T22.2 spec_LedgerOf.B22 = true := by kernel_rfl
def spec_LedgerOf.T23 : Bool × List (List Nat × List Nat) := (true, [([], []), ([0], [0]), ([], []), ([], []), ([3], [3]), ([], []), ([4, 5], [4, 5]), ([6], [6]), ([7], [7]), ([], []), ([9], [9]), ([], []), ([10, 11], [10, 11]), ([12], [12]), ([13], [13]), ([8, 14], [8, 14]), ([1, 2, 0, 1, 2, 3, 4, 5, 6, 7, 8, 9, 10, 11, 12, 13, 14, 15], [1, 2]), ([16, 0, 1, 2, 3, 4, 5, 6, 7, 8, 9, 10, 11, 12, 13, 14, 15], [16]), ([17, 15, 0, 1, 2, 3, 4, 5, 6, 7, 8, 9, 10, 11, 12, 13, 14, 15], [15, 17])])
def spec_LedgerOf.B23 : List Nat := [0, 1, 0, 0, 8, 0, 56, 120, 248, 0, 512, 0, 3584, 7680, 15872, 32760, 65535, 131071, 262143]
theorem spec_LedgerOf.tab23 : rtab .any (opsOf Try.f11 23) = spec_LedgerOf.T23 := by kernel_rfl
theorem spec_LedgerOf.bits23 : waitsOk spec_LedgerOf.T23.2 spec_LedgerOf.B23 = true := by kernel_rfl
set_option maxHeartbeats 64000000 in
set_option maxRecDepth 100000 in
theorem spec_LedgerOf.calls (k : Nat) (A0 : Option Addr) (c0 : Nat) (l0 : List (S35)) (r1 : List (S39)) (r2 : List ByteArray) (r3 : List Int) (r4 : Int) (w : World) (hr0 : Kd.C k35 w A0 l0.length l0) (hc0 : l0.length ≤ c0) (h : spec_LedgerOf.f k l0 = some (r1, r2, r3, r4)) :
  Calls Try.prog 11 #[.slice A0 l0.length c0] w fun e w' => ∃ v0_ v1_ v2_ : Value, e = .returned (.tuple #[.agg #[v0_, v1_, v2_], .int .i64 r4]) ∧ Kd.R k39 39 w' w.heap.size (fun _ => True) v0_ r1 ∧ Kd.R Kd.string 9 w' w.heap.size (fun _ => True) v1_ r2 ∧ Kd.R (Kd.int .i64) 3 w' w.heap.size (fun _ => True) v2_ r3 ∧ Below w.heap.size w w' := by
 have hu31 := Try.underlying31
 have hu35 := Try.underlying35
 have hu39 := Try.underlying39
 obtain ⟨HR0, HC0, HB⟩ := zD3 hr0 hc0 (Below.refl w.heap.size w)
 clear hr0 hc0
 have H : (if (l0.length : Int) > 4096 then (some (([] : List (S39)), ([] : List ByteArray), ([] : List Int), 2)) else ((spec_EventsOK.f k l0).bind fun t161 => (if t161 = true then (spec_LedgerOf.l0 k l0 0 ([] : List (S39)) ([] : List ByteArray) ([] : List Int)) else (some (([] : List (S39)), ([] : List ByteArray), ([] : List Int), 1))))) = some (r1, r2, r3, r4) := h
 clear h
 by_cases c2 : (l0.length : Int) > 4096
 ·rw [if_pos c2] at H
  have c2b0 : decide (4096 < (l0.length : Int)) = true := decide_eq_true c2
  have c2b1 : decide (4096 < l0.length) = true := decide_eq_true (by omega)
  clear c2
  simp only [Option.some.injEq, Prod.mk.injEq] at H
  obtain ⟨rfl, rfl, rfl, rfl⟩ := H
  go_enter Try.func11, Try.ntmps11
  go_wp2_with (first | ((with_reducible refine gate_dst (N := 2) rfl ?_); refine box_event ?hg (N := 2) ?hd (cs := #[.slice none 0 0, .slice none 0 0, .slice none 0 0]) (t := 31) ?hr ?_; (case hd => rfl); (case hg => rfl); (case hr => exact zH101); intro gb160 hg w3 hbox hb; have n_ := zA_ (zb (zr zG61 hb)) (zA_ (zb (hbox)) (zA_ (zN1 w.heap.size hg (zq zG61)) (zN1 w.heap.size hg (zq zG61)))); clear HB; obtain ⟨HB, BK160, GW160, GE160⟩ := n_; clear hb hbox hg; have hcz4_0 : w3.cell? ⟨gb160, 0, none⟩ = some (.slice none 0 0) := (q11a BK160.out 0).trans rfl; have hcz4_1 : w3.cell? ⟨gb160, 1, none⟩ = some (.slice none 0 0) := (q11a BK160.out 1).trans rfl; have hcz4_2 : w3.cell? ⟨gb160, 2, none⟩ = some (.slice none 0 0) := (q11a BK160.out 2).trans rfl; have hfz4_0 := zd BK160.out 0; have hfz4_1 := zd BK160.out 1; have hfz4_2 := zd BK160.out 2))
  refine bodyPost_ret (results_ct rfl _ _ gb160 31 #[.slice none 0 0, .slice none 0 0, .slice none 0 0] (0, 0) _ rfl zK115 Try.underlying31 rfl zG75) rfl ?_
  exact zH4
 rw [if_neg c2] at H
 have c2b0 : decide (4096 < (l0.length : Int)) = false := decide_eq_false c2
 have c2b1 : decide (4096 < l0.length) = false := decide_eq_false (by omega)
 clear c2
 replace H := Option.bind_eq_some_iff.mp H
 obtain ⟨t161, A50, H⟩ := H
 replace H : (if t161 = true then (spec_LedgerOf.l0 k l0 0 ([] : List (S39)) ([] : List ByteArray) ([] : List Int)) else (some (([] : List (S39)), ([] : List ByteArray), ([] : List Int), 1))) = some (r1, r2, r3, r4) := H
 have A5 := zb A50
 clear A50
 by_cases c6 : t161 = true
 rotate_left
 ·replace c6 := Bool.eq_false_iff.mpr c6
  subst c6
  have H1 : (some (([] : List (S39)), ([] : List ByteArray), ([] : List Int), 1)) = some (r1, r2, r3, r4) := by rw [if_neg (show ¬ (false = true) by decide)] at H; exact H
  clear H
  have H := H1
  clear H1
  simp only [Option.some.injEq, Prod.mk.injEq] at H
  obtain ⟨rfl, rfl, rfl, rfl⟩ := H
  go_enter Try.func11, Try.ntmps11
  go_wp2_with (first | ((with_reducible refine gate_dst (N := 2) rfl ?_); refine box_event ?hg (N := 2) ?hd (cs := #[.slice none 0 0, .slice none 0 0, .slice none 0 0]) (t := 31) ?hr ?_; (case hd => rfl); (case hg => rfl); (case hr => exact zH101); intro gb160 hg w108 hbox hb; have n_ := zA_ (zb (zr zG61 hb)) (zA_ (zb (hbox)) (zA_ (zN1 w.heap.size hg (zq zG61)) (zN1 w.heap.size hg (zq zG61)))); clear HB; obtain ⟨HB, BK160, GW160, GE160⟩ := n_; clear hb hbox hg) | ((with_reducible refine gate_callee (f := 28) rfl ?_); refine goesL_ (some 13) rfl rfl Try.func28 zG75 rfl #[.slice A0 l0.length c0] rfl zG55 ?_; (with_reducible refine (spec_EventsOK.calls k _ _ l0 false _ ?side1 ?side2 A5.out).mono ?_); (case side1 => exact zH57); (case side2 => exact HC0.out); rintro e w109 ⟨rfl, hb⟩; refine ⟨_, rfl, ?_⟩; have n_ := zA_ (zb (zt (g := gb160) (o := .cells #[.slice none 0 0, .slice none 0 0, .slice none 0 0] 31 (0, 0)) zG64 hb)) (zb (zr zK145 hb)); clear BK160 HB; obtain ⟨BK160, HB⟩ := n_; (try clear hb); have hcz110_0 : w109.cell? ⟨gb160, 0, none⟩ = some (.slice none 0 0) := (q11a BK160.out 0).trans rfl; have hcz110_1 : w109.cell? ⟨gb160, 1, none⟩ = some (.slice none 0 0) := (q11a BK160.out 1).trans rfl; have hcz110_2 : w109.cell? ⟨gb160, 2, none⟩ = some (.slice none 0 0) := (q11a BK160.out 2).trans rfl; have hfz110_0 := zd BK160.out 0; have hfz110_1 := zd BK160.out 1; have hfz110_2 := zd BK160.out 2))
  refine bodyPost_ret (results_ct rfl _ _ gb160 31 #[.slice none 0 0, .slice none 0 0, .slice none 0 0] (0, 0) _ rfl zK115 Try.underlying31 rfl zG75) rfl ?_
  exact zH4

 subst c6
 have H1 : (spec_LedgerOf.l0 k l0 0 ([] : List (S39)) ([] : List ByteArray) ([] : List Int)) = some (r1, r2, r3, r4) := by rw [if_pos rfl] at H; exact H
 clear H
 have H := H1
 clear H1
 have H' := zb H
 clear H
 go_enter Try.func11, Try.ntmps11
 go_wp2_with (first | ((with_reducible refine gate_dst (N := 2) rfl ?_); refine box_event ?hg (N := 2) ?hd (cs := #[.slice none 0 0, .slice none 0 0, .slice none 0 0]) (t := 31) ?hr ?_; (case hd => rfl); (case hg => rfl); (case hr => exact zH101); intro gb160 hg w7 hbox hb; have n_ := zA_ (zb (zr zG61 hb)) (zA_ (zb (hbox)) (zA_ (zN1 w.heap.size hg (zq zG61)) (zN1 w.heap.size hg (zq zG61)))); clear HB; obtain ⟨HB, BK160, GW160, GE160⟩ := n_; clear hb hbox hg) | ((with_reducible refine gate_callee (f := 28) rfl ?_); refine goesL_ (some 13) rfl rfl Try.func28 zG75 rfl #[.slice A0 l0.length c0] rfl zG55 ?_; (with_reducible refine (spec_EventsOK.calls k _ _ l0 true _ ?side1 ?side2 A5.out).mono ?_); (case side1 => exact zH57); (case side2 => exact HC0.out); rintro e w8 ⟨rfl, hb⟩; refine ⟨_, rfl, ?_⟩; have n_ := zA_ (zb (zt (g := gb160) (o := .cells #[.slice none 0 0, .slice none 0 0, .slice none 0 0] 31 (0, 0)) zG64 hb)) (zb (zr zK145 hb)); clear BK160 HB; obtain ⟨BK160, HB⟩ := n_; (try clear hb)) | ((with_reducible refine gate_dst (N := 4) rfl ?_); refine box_event ?hg (N := 4) ?hd (cs := #[.slice none 0 0, .slice none 0 0, .slice none 0 0]) (t := 31) ?hr ?_; (case hd => rfl); (case hg => rfl); (case hr => exact zH101); intro gb162 hg w9 hbox hb; have n_ := zA_ (zb (zt (g := gb160) (o := .cells #[.slice none 0 0, .slice none 0 0, .slice none 0 0] 31 (0, 0)) zG64 hb)) (zA_ (zb (zr zK145 hb)) (zA_ (zb (hbox)) (zA_ (zN1 w.heap.size hg (zq zK145)) (zA_ (zN1 w.heap.size hg (zq zK145)) (zN2 hg (zaa (g := gb160) (o := .cells #[.slice none 0 0, .slice none 0 0, .slice none 0 0] 31 (0, 0)) zG64)))))); clear BK160 HB; obtain ⟨BK160, HB, BK162, GW162, GE162, NB160_162, NB162_160⟩ := n_; clear hb hbox hg; have hnb10 := NB162_160.out; have hnc10 := NB160_162.out; have hcz11_0 : w9.cell? ⟨gb162, 0, none⟩ = some (.slice none 0 0) := (q11a BK162.out 0).trans rfl; have hcz11_1 : w9.cell? ⟨gb162, 1, none⟩ = some (.slice none 0 0) := (q11a BK162.out 1).trans rfl; have hcz11_2 : w9.cell? ⟨gb162, 2, none⟩ = some (.slice none 0 0) := (q11a BK162.out 2).trans rfl; have hfz11_0 := zd BK162.out 0; have hfz11_1 := zd BK162.out 1; have hfz11_2 := zd BK162.out 2))
 go_loopg [5] k (fun kq v5 w' => ∃ (x5_1 : Int) (x163000_1 : List (S39)) (x163001_1 : List ByteArray) (x163002_1 : List Int) (u163000 : Value) (u163001 : Value) (u163002 : Value), v5 = .int .i64 x5_1 ∧ Aside0 (spec_LedgerOf.l0 kq l0 x5_1 x163000_1 x163001_1 x163002_1 = some (r1, r2, r3, r4)) ∧ Aside0 (kq ≤ k) ∧ Aside0 (Kd.R k39 39 w' w.heap.size (fun _ => True) u163000 x163000_1) ∧ Aside0 (Kd.R Kd.string 9 w' w.heap.size (fun _ => True) u163001 x163001_1) ∧ Aside0 (Kd.R (Kd.int .i64) 3 w' w.heap.size (fun _ => True) u163002 x163002_1) ∧ Aside0 (w'.heap[gb160]? = some (.cells #[(.slice none 0 0), (.slice none 0 0), (.slice none 0 0)] 31 (0, 0))) ∧ Aside0 (w'.heap[gb162]? = some (.cells #[u163000, u163001, u163002] 31 (0, 0))) ∧ Aside0 (Below w.heap.size w w'))
 case atStart => exact ⟨(0), (([] : List (S39))), (([] : List ByteArray)), (([] : List Int)), (.slice none 0 0), (.slice none 0 0), (.slice none 0 0), zG74, H', ⟨Nat.le_refl _⟩, ⟨zH66⟩, ⟨zH66⟩, ⟨zH66⟩, ⟨by (with_reducible repeat (first | refine zh ?_ _ | refine zm ?_ | refine zi ?_ _)); refine zx ?_ NB160_162.out _; (with_reducible repeat (first | refine zh ?_ _ | refine zm ?_ | refine zi ?_ _)); refine zx ?_ NB160_162.out _; (with_reducible repeat (first | refine zh ?_ _ | refine zm ?_ | refine zi ?_ _)); refine zx ?_ NB160_162.out _; (with_reducible repeat (first | refine zh ?_ _ | refine zm ?_ | refine zi ?_ _)); exact BK160.out⟩, ⟨by (with_reducible repeat (first | refine zh ?_ _ | refine zm ?_ | refine zi ?_ _)); refine zz (cs := #[.slice none 0 0, .slice none 0 0, .slice none 0 0]) ?_ 2 _ rfl; (with_reducible repeat (first | refine zh ?_ _ | refine zm ?_ | refine zi ?_ _)); refine zz (cs := #[.slice none 0 0, .slice none 0 0, .slice none 0 0]) ?_ 1 _ rfl; (with_reducible repeat (first | refine zh ?_ _ | refine zm ?_ | refine zi ?_ _)); refine zz (cs := #[.slice none 0 0, .slice none 0 0, .slice none 0 0]) ?_ 0 _ rfl; (with_reducible repeat (first | refine zh ?_ _ | refine zm ?_ | refine zi ?_ _)); exact BK162.out⟩, ⟨zH40⟩⟩
 case round =>
  clear H'
  try clear c2
  try clear c2b0
  try clear c2b1
  try clear c6
  try clear hcz11_0
  try clear hcz11_1
  try clear hcz11_2
  try clear hcz4_0
  try clear hcz4_1
  try clear hcz4_2
  try clear hfz11_0
  try clear hfz11_1
  try clear hfz11_2
  try clear hfz4_0
  try clear hfz4_1
  try clear hfz4_2
  obtain ⟨x5_1, x163000_1, x163001_1, x163002_1, u163000, u163001, u163002, rfl, HA, HK1, HO_163000, HO_163001, HO_163002, BK160, BK162, HB⟩ := hrel
  cases gk with
  | zero => exact absurd HA.out (by simp [spec_LedgerOf.l0])
  | succ k1 =>
   have H := HA.out
   clear HA
   simp only [spec_LedgerOf.l0] at H
   by_cases c12 : x5_1 < (l0.length : Int)
   rotate_left
   ·rw [if_neg c12] at H
    have c12b0 := decide_eq_false c12
    clear c12
    simp only [Option.some.injEq, Prod.mk.injEq] at H
    obtain ⟨rfl, rfl, rfl, rfl⟩ := H
    have hnb102 := NB162_160.out
    have hnc102 := NB160_162.out
    have hcz103_0 : wr.cell? ⟨gb162, 0, none⟩ = some (u163000) := (q11a BK162.out 0).trans rfl
    have hcz103_1 : wr.cell? ⟨gb162, 1, none⟩ = some (u163001) := (q11a BK162.out 1).trans rfl
    have hcz103_2 : wr.cell? ⟨gb162, 2, none⟩ = some (u163002) := (q11a BK162.out 2).trans rfl
    have hfz103_0 := zd BK162.out 0
    have hfz103_1 := zd BK162.out 1
    have hfz103_2 := zd BK162.out 2
    obtain ⟨Ao104, co104, eo104⟩ := zy HO_163000.out
    subst eo104
    have hcz105_0 : wr.cell? ⟨gb160, 0, none⟩ = some (.slice none 0 0) := (q11a BK160.out 0).trans rfl
    have hcz105_1 : wr.cell? ⟨gb160, 1, none⟩ = some (.slice none 0 0) := (q11a BK160.out 1).trans rfl
    have hcz105_2 : wr.cell? ⟨gb160, 2, none⟩ = some (.slice none 0 0) := (q11a BK160.out 2).trans rfl
    have hfz105_0 := zd BK160.out 0
    have hfz105_1 := zd BK160.out 1
    have hfz105_2 := zd BK160.out 2
    obtain ⟨Ao106, co106, eo106⟩ := zy HO_163001.out
    subst eo106
    obtain ⟨Ao107, co107, eo107⟩ := zy HO_163002.out
    subst eo107
    go_wp2
    refine bodyPost_ret (results_ct rfl _ _ gb160 31 #[.slice Ao104 x163000_1.length co104, .slice Ao106 x163001_1.length co106, .slice Ao107 x163002_1.length co107] (0, 0) _ rfl (by (with_reducible repeat (first | refine zh ?_ _ | refine zm ?_ | refine zi ?_ _)); refine zz (cs := #[.slice Ao104 x163000_1.length co104, .slice Ao106 x163001_1.length co106, .slice none 0 0]) ?_ 2 _ rfl; (with_reducible repeat (first | refine zh ?_ _ | refine zm ?_ | refine zi ?_ _)); refine zz (cs := #[.slice Ao104 x163000_1.length co104, .slice none 0 0, .slice none 0 0]) ?_ 1 _ rfl; (with_reducible repeat (first | refine zh ?_ _ | refine zm ?_ | refine zi ?_ _)); refine zz (cs := #[.slice none 0 0, .slice none 0 0, .slice none 0 0]) ?_ 0 _ rfl; (with_reducible repeat (first | refine zh ?_ _ | refine zm ?_ | refine zi ?_ _)); exact BK160.out) Try.underlying31 rfl zG75) rfl ?_
    exact ⟨_, _, _, zH87, by (with_reducible repeat (first | apply zj | apply zk | apply zl)); exact zp (zn (p := ⟨gb160, 2, none⟩) (zn (p := ⟨gb160, 1, none⟩) (zn (p := ⟨gb160, 0, none⟩) (zs HO_163000.out BK160.out zG76) (fun _ hk => hk.2) (.slice Ao104 x163000_1.length co104)) (fun _ hk => hk.2) (.slice Ao106 x163001_1.length co106)) (fun _ hk => hk.2) (.slice Ao107 x163002_1.length co107)) (fun _ hk => trivial), by (with_reducible repeat (first | apply zj | apply zk | apply zl)); exact zp (zn (p := ⟨gb160, 2, none⟩) (zn (p := ⟨gb160, 1, none⟩) (zn (p := ⟨gb160, 0, none⟩) (zs HO_163001.out BK160.out zG76) (fun _ hk => hk.2) (.slice Ao104 x163000_1.length co104)) (fun _ hk => hk.2) (.slice Ao106 x163001_1.length co106)) (fun _ hk => hk.2) (.slice Ao107 x163002_1.length co107)) (fun _ hk => trivial), by (with_reducible repeat (first | apply zj | apply zk | apply zl)); exact zp (zn (p := ⟨gb160, 2, none⟩) (zn (p := ⟨gb160, 1, none⟩) (zn (p := ⟨gb160, 0, none⟩) (zs HO_163002.out BK160.out zG76) (fun _ hk => hk.2) (.slice Ao104 x163000_1.length co104)) (fun _ hk => hk.2) (.slice Ao106 x163001_1.length co106)) (fun _ hk => hk.2) (.slice Ao107 x163002_1.length co107)) (fun _ hk => trivial), zH40⟩
   rw [if_pos c12] at H
   have c12b0 := decide_eq_true c12
   clear c12
   by_cases c13 : 0 ≤ x5_1
   rotate_left
   ·rw [if_neg c13] at H
    exact absurd H (by simp)
   rw [if_pos c13] at H
   have c13b0 := decide_eq_true c13
   clear c13
   by_cases c14 : ((rd_T35 l0 x5_1).f3) = 3
   ·rw [if_pos c14] at H
    have c14b0 : (((rd_T35 l0 x5_1).f3) == 3) = true := beq_iff_eq.mpr c14
    have c14b1 : (((rd_T35 l0 x5_1).f3) != 3) = false := bne_eq_false_iff_eq.mpr c14
    clear c14
    replace H := Option.bind_eq_some_iff.mp H
    obtain ⟨t165, A150, H⟩ := H
    replace H : (if t165 = true then (if x163002_1.length < 17592186044416 then (spec_LedgerOf.l0 k1 l0 (wrap64 (x5_1 + 1)) x163000_1 x163001_1 (x163002_1 ++ [x5_1])) else (none)) else (if x163001_1.length < 8796093022208 then (spec_LedgerOf.l0 k1 l0 (wrap64 (x5_1 + 1)) x163000_1 (x163001_1 ++ [(rd_T35 l0 x5_1).f4]) x163002_1) else (none))) = some (r1, r2, r3, r4) := H
    have A15 := zb A150
    clear A150
    by_cases c16 : t165 = true
    ·subst c16
     have H1 : (if x163002_1.length < 17592186044416 then (spec_LedgerOf.l0 k1 l0 (wrap64 (x5_1 + 1)) x163000_1 x163001_1 (x163002_1 ++ [x5_1])) else (none)) = some (r1, r2, r3, r4) := by rw [if_pos rfl] at H; exact H
     clear H
     have H := H1
     clear H1
     by_cases c17 : x163002_1.length < 17592186044416
     rotate_left
     ·rw [if_neg c17] at H
      exact absurd H (by simp)
     rw [if_pos c17] at H
     have LMc17 := zb c17
     clear c17
     obtain ⟨y166, hy166⟩ : ∃ y_ : List Int, y_ = (x163002_1 ++ [x5_1]) := ⟨_, rfl⟩
     replace H : (spec_LedgerOf.l0 k1 l0 (wrap64 (x5_1 + 1)) x163000_1 x163001_1 y166) = some (r1, r2, r3, r4) := by first | (rw [hy166]; with_reducible exact H) | (have H2_ := (Option.bind_some _ _).symm.trans H; rw [hy166]; with_reducible exact H2_) | (have H2_ := (Option.bind_some _ _).symm.trans H; with_reducible exact H2_) | with_reducible exact H | (rw [hy166]; exact H) | exact H
     have Ny166 := zb hy166
     clear hy166
     have H' := zb H
     clear H
     have p163 : 0 ≤ (x5_1 : Int) := zO
     have q163 : x5_1 < (l0.length : Int) := zO
     obtain ⟨ad163, e163, hx163_0, hx163_1, hx163_2, hx163_3, hx163_4, hx163_5⟩ := at_T35 HR0.out x5_1 p163 q163
     cases e163
     replace hx163_0 := (HB.out.cell (za w _ hx163_0)).trans hx163_0
     replace hx163_1 := (HB.out.cell (za w _ hx163_1)).trans hx163_1
     replace hx163_2 := (HB.out.cell (za w _ hx163_2)).trans hx163_2
     replace hx163_3 := (HB.out.cell (za w _ hx163_3)).trans hx163_3
     replace hx163_4 := (HB.out.cell (za w _ hx163_4)).trans hx163_4
     replace hx163_5 := (HB.out.cell (za w _ hx163_5)).trans hx163_5
     replace p163 := eq_true p163
     replace q163 := eq_true q163
     go_wp2_with (first | ((with_reducible refine gate_dst (N := 6) rfl ?_); refine box_event ?hg (N := 6) ?hd (cs := #[.int .i64 0, .int .i64 0, .int .i64 0, .int .i64 0, .string (⟨#[]⟩ : ByteArray), .int .i64 0]) (t := 35) ?hr ?_; (case hd => rfl); (case hg => rfl); (case hr => exact zH101); intro gb164 hg w18 hbox hb; have n_ := zA_ (zb (zo zK165 hb)) (zA_ (zb (zo zK166 hb)) (zA_ (zb (zo zK167 hb)) (zA_ (zb (zt (g := gb160) (o := .cells #[.slice none 0 0, .slice none 0 0, .slice none 0 0] 31 (0, 0)) zG64 hb)) (zA_ (zb (zt (g := gb162) (o := .cells #[u163000, u163001, u163002] 31 (0, 0)) zK153 hb)) (zA_ (zb (zr zK141 hb)) (zA_ (zb (hbox)) (zA_ (zN1 w.heap.size hg (zq zK141)) (zA_ (zN1 w.heap.size hg (zq zK141)) (zN3 hg (zaa (g := gb160) (o := .cells #[.slice none 0 0, .slice none 0 0, .slice none 0 0] 31 (0, 0)) zG64) (zN2 hg (zaa (g := gb162) (o := .cells #[u163000, u163001, u163002] 31 (0, 0)) zK153))))))))))); clear HO_163000 HO_163001 HO_163002 BK160 BK162 HB; obtain ⟨HO_163000, HO_163001, HO_163002, BK160, BK162, HB, BK164, GW164, GE164, NB160_164, NB164_160, NB162_164, NB164_162⟩ := n_; clear hb hbox hg; have hnb19 := NB164_160.out; have hnc19 := NB160_164.out; have hnb20 := NB164_162.out; have hnc20 := NB162_164.out; have hcz21_0 : w18.cell? ⟨gb164, 0, none⟩ = some (.int .i64 0) := (q11a BK164.out 0).trans rfl; have hcz21_1 : w18.cell? ⟨gb164, 1, none⟩ = some (.int .i64 0) := (q11a BK164.out 1).trans rfl; have hcz21_2 : w18.cell? ⟨gb164, 2, none⟩ = some (.int .i64 0) := (q11a BK164.out 2).trans rfl; have hcz21_3 : w18.cell? ⟨gb164, 3, none⟩ = some (.int .i64 0) := (q11a BK164.out 3).trans rfl; have hcz21_4 : w18.cell? ⟨gb164, 4, none⟩ = some (.string (⟨#[]⟩ : ByteArray)) := (q11a BK164.out 4).trans rfl; have hcz21_5 : w18.cell? ⟨gb164, 5, none⟩ = some (.int .i64 0) := (q11a BK164.out 5).trans rfl; have hfz21_0 := zd BK164.out 0; have hfz21_1 := zd BK164.out 1; have hfz21_2 := zd BK164.out 2; have hfz21_3 := zd BK164.out 3; have hfz21_4 := zd BK164.out 4; have hfz21_5 := zd BK164.out 5; have hnb22 := NB162_160.out; have hnc22 := NB160_162.out; have hcz23_0 : w18.cell? ⟨gb162, 0, none⟩ = some (u163000) := (q11a BK162.out 0).trans rfl; have hcz23_1 : w18.cell? ⟨gb162, 1, none⟩ = some (u163001) := (q11a BK162.out 1).trans rfl; have hcz23_2 : w18.cell? ⟨gb162, 2, none⟩ = some (u163002) := (q11a BK162.out 2).trans rfl; have hfz23_0 := zd BK162.out 0; have hfz23_1 := zd BK162.out 1; have hfz23_2 := zd BK162.out 2; obtain ⟨Ao24, co24, eo24⟩ := zy HO_163001.out; subst eo24) | ((with_reducible refine gate_callee (f := 29) rfl ?_); refine goesL_ (some 34) rfl rfl Try.func29 zG75 rfl #[.slice Ao24 x163001_1.length co24, .string ((rd_T35 l0 x5_1).f4)] rfl zG55 ?_; (with_reducible refine (spec_l00Has.calls k1 _ _ x163001_1 ((rd_T35 l0 x5_1).f4) true _ ?side1 ?side2 A15.out).mono ?_); (case side1 => refine (Kd.R_reads' (e := 9) (base := w.heap.size) (ok := fun k_ => True) (n := x163001_1.length) (c := co24) ?_).2.2; exact zK112); (case side2 => exact (Kd.R_reads' HO_163001.out).2.1); rintro e w' ⟨rfl, ⟨nd, rfl⟩⟩; refine ⟨_, rfl, ?_⟩) | ((with_reducible refine gate_builtin (b := .append) (xs := #[.tmp 36, .tmp 38]) rfl ?_); at_builtin; refine zbb (Kd.int .i64) (w0 := w) w.heap.size rfl (.tmp 36) (.tmp 38) 29 3 (.int .i64 0) 8 rfl Try.underlying29 info3 rfl zG76 (by omega) u163002 x163002_1 x5_1 [.int .i64 x5_1] (fun _ => True) (fun _ => False) rfl zK176 ?aP (fun _ hk => hk.elim) ?aF ?aO ?aB ?aS ?aL ?_; (case aP => exact rfl); (case aB => exact zH36); (case aF => exact (fun _ _ => trivial)); (case aO => exact (by (with_reducible repeat (first | apply zj | apply zk | apply zl)); exact zp (zn (p := ⟨gb164, 5, none⟩) (zn (p := ⟨gb164, 4, none⟩) (zn (p := ⟨gb164, 3, none⟩) (zn (p := ⟨gb164, 2, none⟩) (zn (p := ⟨gb164, 1, none⟩) (zn (p := ⟨gb164, 0, none⟩) (zs HO_163002.out BK164.out zG76) (fun _ hk => hk.2) (.int .i64 ((rd_T35 l0 x5_1).f0))) (fun _ hk => hk.2) (.int .i64 ((rd_T35 l0 x5_1).f1))) (fun _ hk => hk.2) (.int .i64 ((rd_T35 l0 x5_1).f2))) (fun _ hk => hk.2) (.int .i64 ((rd_T35 l0 x5_1).f3))) (fun _ hk => hk.2) (.string ((rd_T35 l0 x5_1).f4))) (fun _ hk => hk.2) (.int .i64 ((rd_T35 l0 x5_1).f5))) (fun _ hk => trivial))); (case aS => exact zH35); (case aL => have := LMc17.out; omega); intro v167 w25 ho hb hg hat; rw [← Ny166.out] at ho; have n_ := zA_ (zb (zav zK113 (zac zK114) zG76 hg)) (zA_ (zb (zav zK112 (zac zK114) zG76 hg)) (zA_ (zb (zar (g := gb160) (o := .cells #[.slice none 0 0, .slice none 0 0, .slice none 0 0] 31 (0, 0)) zK108 hg (zae HO_163002.out BK160.out zG76))) (zA_ (zb (zar (g := gb162) (o := .cells #[u163000, .slice Ao24 x163001_1.length co24, u163002] 31 (0, 0)) zK109 hg (zae HO_163002.out BK162.out zG76))) (zA_ (zb (zar (g := gb164) (o := .cells #[.int .i64 ((rd_T35 l0 x5_1).f0), .int .i64 ((rd_T35 l0 x5_1).f1), .int .i64 ((rd_T35 l0 x5_1).f2), .int .i64 ((rd_T35 l0 x5_1).f3), .string ((rd_T35 l0 x5_1).f4), .int .i64 ((rd_T35 l0 x5_1).f5)] 35 (0, 0)) zK107 hg (zae HO_163002.out BK164.out zG76))) (zA_ (zb (hb)) (zb (ho))))))); clear HO_163000 HO_163001 BK160 BK162 BK164 HB HO_163002; obtain ⟨HO_163000, HO_163001, BK160, BK162, BK164, HB, HO168⟩ := n_; clear ho hb hg hat; obtain ⟨Ao26, co26, eo26⟩ := zy HO168.out; subst eo26; have hcz27_0 : w25.cell? ⟨gb162, 0, none⟩ = some (u163000) := (q11a BK162.out 0).trans rfl; have hcz27_1 : w25.cell? ⟨gb162, 1, none⟩ = some (.slice Ao24 x163001_1.length co24) := (q11a BK162.out 1).trans rfl; have hcz27_2 : w25.cell? ⟨gb162, 2, none⟩ = some (u163002) := (q11a BK162.out 2).trans rfl; have hfz27_0 := zd BK162.out 0; have hfz27_1 := zd BK162.out 1; have hfz27_2 := zd BK162.out 2))
     go_roundg k1
     case measure => have := HK1.out; omega
     case rel => exact ⟨(wrap64 (x5_1 + 1)), (x163000_1), (x163001_1), (y166), (u163000), (.slice Ao24 x163001_1.length co24), (.slice Ao26 y166.length co26), zG74, H', ⟨zH106⟩, ⟨by (with_reducible repeat (first | apply zj | apply zk | apply zl)); exact zp (zn (p := ⟨gb162, 2, none⟩) (zs HO_163000.out BK162.out zG76) (fun _ hk => hk.2) (.slice Ao26 y166.length co26)) (fun _ hk => trivial)⟩, ⟨by (with_reducible repeat (first | apply zj | apply zk | apply zl)); exact zp (zn (p := ⟨gb162, 2, none⟩) (zs HO_163001.out BK162.out zG76) (fun _ hk => hk.2) (.slice Ao26 y166.length co26)) (fun _ hk => trivial)⟩, ⟨by (with_reducible repeat (first | apply zj | apply zk | apply zl)); exact zp (zn (p := ⟨gb162, 2, none⟩) (zs HO168.out BK162.out zG76) (fun _ hk => hk.2) (.slice Ao26 y166.length co26)) (fun _ hk => trivial)⟩, ⟨zH31⟩, ⟨by (with_reducible repeat (first | refine zh ?_ _ | refine zm ?_ | refine zi ?_ _)); refine zz (cs := #[u163000, .slice Ao24 x163001_1.length co24, u163002]) ?_ 2 _ rfl; (with_reducible repeat (first | refine zh ?_ _ | refine zm ?_ | refine zi ?_ _)); exact BK162.out⟩, ⟨zH37⟩⟩
    replace c16 := Bool.eq_false_iff.mpr c16
    subst c16
    have H1 : (if x163001_1.length < 8796093022208 then (spec_LedgerOf.l0 k1 l0 (wrap64 (x5_1 + 1)) x163000_1 (x163001_1 ++ [(rd_T35 l0 x5_1).f4]) x163002_1) else (none)) = some (r1, r2, r3, r4) := by rw [if_neg (show ¬ (false = true) by decide)] at H; exact H
    clear H
    have H := H1
    clear H1
    by_cases c28 : x163001_1.length < 8796093022208
    rotate_left
    ·rw [if_neg c28] at H
     exact absurd H (by simp)
    rw [if_pos c28] at H
    have LMc28 := zb c28
    clear c28
    obtain ⟨y169, hy169⟩ : ∃ y_ : List ByteArray, y_ = (x163001_1 ++ [(rd_T35 l0 x5_1).f4]) := ⟨_, rfl⟩
    replace H : (spec_LedgerOf.l0 k1 l0 (wrap64 (x5_1 + 1)) x163000_1 y169 x163002_1) = some (r1, r2, r3, r4) := by first | (rw [hy169]; with_reducible exact H) | (have H2_ := (Option.bind_some _ _).symm.trans H; rw [hy169]; with_reducible exact H2_) | (have H2_ := (Option.bind_some _ _).symm.trans H; with_reducible exact H2_) | with_reducible exact H | (rw [hy169]; exact H) | exact H
    have Ny169 := zb hy169
    clear hy169
    have H' := zb H
    clear H
    have p163 : 0 ≤ (x5_1 : Int) := zO
    have q163 : x5_1 < (l0.length : Int) := zO
    obtain ⟨ad163, e163, hx163_0, hx163_1, hx163_2, hx163_3, hx163_4, hx163_5⟩ := at_T35 HR0.out x5_1 p163 q163
    cases e163
    replace hx163_0 := (HB.out.cell (za w _ hx163_0)).trans hx163_0
    replace hx163_1 := (HB.out.cell (za w _ hx163_1)).trans hx163_1
    replace hx163_2 := (HB.out.cell (za w _ hx163_2)).trans hx163_2
    replace hx163_3 := (HB.out.cell (za w _ hx163_3)).trans hx163_3
    replace hx163_4 := (HB.out.cell (za w _ hx163_4)).trans hx163_4
    replace hx163_5 := (HB.out.cell (za w _ hx163_5)).trans hx163_5
    replace p163 := eq_true p163
    replace q163 := eq_true q163
    go_wp2_with (first | ((with_reducible refine gate_dst (N := 6) rfl ?_); refine box_event ?hg (N := 6) ?hd (cs := #[.int .i64 0, .int .i64 0, .int .i64 0, .int .i64 0, .string (⟨#[]⟩ : ByteArray), .int .i64 0]) (t := 35) ?hr ?_; (case hd => rfl); (case hg => rfl); (case hr => exact zH101); intro gb164 hg w29 hbox hb; have n_ := zA_ (zb (zo zK165 hb)) (zA_ (zb (zo zK166 hb)) (zA_ (zb (zo zK167 hb)) (zA_ (zb (zt (g := gb160) (o := .cells #[.slice none 0 0, .slice none 0 0, .slice none 0 0] 31 (0, 0)) zG64 hb)) (zA_ (zb (zt (g := gb162) (o := .cells #[u163000, u163001, u163002] 31 (0, 0)) zK153 hb)) (zA_ (zb (zr zK141 hb)) (zA_ (zb (hbox)) (zA_ (zN1 w.heap.size hg (zq zK141)) (zA_ (zN1 w.heap.size hg (zq zK141)) (zN3 hg (zaa (g := gb160) (o := .cells #[.slice none 0 0, .slice none 0 0, .slice none 0 0] 31 (0, 0)) zG64) (zN2 hg (zaa (g := gb162) (o := .cells #[u163000, u163001, u163002] 31 (0, 0)) zK153))))))))))); clear HO_163000 HO_163001 HO_163002 BK160 BK162 HB; obtain ⟨HO_163000, HO_163001, HO_163002, BK160, BK162, HB, BK164, GW164, GE164, NB160_164, NB164_160, NB162_164, NB164_162⟩ := n_; clear hb hbox hg; have hnb30 := NB164_160.out; have hnc30 := NB160_164.out; have hnb31 := NB164_162.out; have hnc31 := NB162_164.out; have hcz32_0 : w29.cell? ⟨gb164, 0, none⟩ = some (.int .i64 0) := (q11a BK164.out 0).trans rfl; have hcz32_1 : w29.cell? ⟨gb164, 1, none⟩ = some (.int .i64 0) := (q11a BK164.out 1).trans rfl; have hcz32_2 : w29.cell? ⟨gb164, 2, none⟩ = some (.int .i64 0) := (q11a BK164.out 2).trans rfl; have hcz32_3 : w29.cell? ⟨gb164, 3, none⟩ = some (.int .i64 0) := (q11a BK164.out 3).trans rfl; have hcz32_4 : w29.cell? ⟨gb164, 4, none⟩ = some (.string (⟨#[]⟩ : ByteArray)) := (q11a BK164.out 4).trans rfl; have hcz32_5 : w29.cell? ⟨gb164, 5, none⟩ = some (.int .i64 0) := (q11a BK164.out 5).trans rfl; have hfz32_0 := zd BK164.out 0; have hfz32_1 := zd BK164.out 1; have hfz32_2 := zd BK164.out 2; have hfz32_3 := zd BK164.out 3; have hfz32_4 := zd BK164.out 4; have hfz32_5 := zd BK164.out 5; have hnb33 := NB162_160.out; have hnc33 := NB160_162.out; have hcz34_0 : w29.cell? ⟨gb162, 0, none⟩ = some (u163000) := (q11a BK162.out 0).trans rfl; have hcz34_1 : w29.cell? ⟨gb162, 1, none⟩ = some (u163001) := (q11a BK162.out 1).trans rfl; have hcz34_2 : w29.cell? ⟨gb162, 2, none⟩ = some (u163002) := (q11a BK162.out 2).trans rfl; have hfz34_0 := zd BK162.out 0; have hfz34_1 := zd BK162.out 1; have hfz34_2 := zd BK162.out 2; obtain ⟨Ao35, co35, eo35⟩ := zy HO_163001.out; subst eo35) | ((with_reducible refine gate_callee (f := 29) rfl ?_); refine goesL_ (some 34) rfl rfl Try.func29 zG75 rfl #[.slice Ao35 x163001_1.length co35, .string ((rd_T35 l0 x5_1).f4)] rfl zG55 ?_; (with_reducible refine (spec_l00Has.calls k1 _ _ x163001_1 ((rd_T35 l0 x5_1).f4) false _ ?side1 ?side2 A15.out).mono ?_); (case side1 => refine (Kd.R_reads' (e := 9) (base := w.heap.size) (ok := fun k_ => True) (n := x163001_1.length) (c := co35) ?_).2.2; exact zK112); (case side2 => exact (Kd.R_reads' HO_163001.out).2.1); rintro e w' ⟨rfl, ⟨nd, rfl⟩⟩; refine ⟨_, rfl, ?_⟩) | ((with_reducible refine gate_builtin (b := .append) (xs := #[.tmp 42, .tmp 45]) rfl ?_); at_builtin; refine zbb Kd.string (w0 := w) w.heap.size rfl (.tmp 42) (.tmp 45) 28 9 (.string ⟨#[]⟩) 16 rfl Try.underlying28 info9 rfl zG76 (by omega) (.slice Ao35 x163001_1.length co35) x163001_1 ((rd_T35 l0 x5_1).f4) [.string ((rd_T35 l0 x5_1).f4)] (fun _ => True) (fun _ => False) rfl zK176 ?aP (fun _ hk => hk.elim) ?aF ?aO ?aB ?aS ?aL ?_; (case aP => exact rfl); (case aB => exact zH36); (case aF => exact (fun _ _ => trivial)); (case aO => exact (by (with_reducible repeat (first | apply zj | apply zk | apply zl)); exact zp (zn (p := ⟨gb164, 5, none⟩) (zn (p := ⟨gb164, 4, none⟩) (zn (p := ⟨gb164, 3, none⟩) (zn (p := ⟨gb164, 2, none⟩) (zn (p := ⟨gb164, 1, none⟩) (zn (p := ⟨gb164, 0, none⟩) (zs HO_163001.out BK164.out zG76) (fun _ hk => hk.2) (.int .i64 ((rd_T35 l0 x5_1).f0))) (fun _ hk => hk.2) (.int .i64 ((rd_T35 l0 x5_1).f1))) (fun _ hk => hk.2) (.int .i64 ((rd_T35 l0 x5_1).f2))) (fun _ hk => hk.2) (.int .i64 ((rd_T35 l0 x5_1).f3))) (fun _ hk => hk.2) (.string ((rd_T35 l0 x5_1).f4))) (fun _ hk => hk.2) (.int .i64 ((rd_T35 l0 x5_1).f5))) (fun _ hk => trivial))); (case aS => exact zH35); (case aL => have := LMc28.out; omega); intro v170 w36 ho hb hg hat; rw [← Ny169.out] at ho; have n_ := zA_ (zb (zav zK113 (zac zK112) zG76 hg)) (zA_ (zb (zav zK114 (zac zK112) zG76 hg)) (zA_ (zb (zar (g := gb160) (o := .cells #[.slice none 0 0, .slice none 0 0, .slice none 0 0] 31 (0, 0)) zK108 hg (zae HO_163001.out BK160.out zG76))) (zA_ (zb (zar (g := gb162) (o := .cells #[u163000, .slice Ao35 x163001_1.length co35, u163002] 31 (0, 0)) zK109 hg (zae HO_163001.out BK162.out zG76))) (zA_ (zb (zar (g := gb164) (o := .cells #[.int .i64 ((rd_T35 l0 x5_1).f0), .int .i64 ((rd_T35 l0 x5_1).f1), .int .i64 ((rd_T35 l0 x5_1).f2), .int .i64 ((rd_T35 l0 x5_1).f3), .string ((rd_T35 l0 x5_1).f4), .int .i64 ((rd_T35 l0 x5_1).f5)] 35 (0, 0)) zK107 hg (zae HO_163001.out BK164.out zG76))) (zA_ (zb (hb)) (zb (ho))))))); clear HO_163000 HO_163002 BK160 BK162 BK164 HB HO_163001; obtain ⟨HO_163000, HO_163002, BK160, BK162, BK164, HB, HO171⟩ := n_; clear ho hb hg hat; obtain ⟨Ao37, co37, eo37⟩ := zy HO171.out; subst eo37; have hcz38_0 : w36.cell? ⟨gb162, 0, none⟩ = some (u163000) := (q11a BK162.out 0).trans rfl; have hcz38_1 : w36.cell? ⟨gb162, 1, none⟩ = some (.slice Ao35 x163001_1.length co35) := (q11a BK162.out 1).trans rfl; have hcz38_2 : w36.cell? ⟨gb162, 2, none⟩ = some (u163002) := (q11a BK162.out 2).trans rfl; have hfz38_0 := zd BK162.out 0; have hfz38_1 := zd BK162.out 1; have hfz38_2 := zd BK162.out 2))
    go_roundg k1
    case measure => have := HK1.out; omega
    case rel => exact ⟨(wrap64 (x5_1 + 1)), (x163000_1), (y169), (x163002_1), (u163000), (.slice Ao37 y169.length co37), (u163002), zG74, H', ⟨zH106⟩, ⟨by (with_reducible repeat (first | apply zj | apply zk | apply zl)); exact zp (zn (p := ⟨gb162, 1, none⟩) (zs HO_163000.out BK162.out zG76) (fun _ hk => hk.2) (.slice Ao37 y169.length co37)) (fun _ hk => trivial)⟩, ⟨by (with_reducible repeat (first | apply zj | apply zk | apply zl)); exact zp (zn (p := ⟨gb162, 1, none⟩) (zs HO171.out BK162.out zG76) (fun _ hk => hk.2) (.slice Ao37 y169.length co37)) (fun _ hk => trivial)⟩, ⟨by (with_reducible repeat (first | apply zj | apply zk | apply zl)); exact zp (zn (p := ⟨gb162, 1, none⟩) (zs HO_163002.out BK162.out zG76) (fun _ hk => hk.2) (.slice Ao37 y169.length co37)) (fun _ hk => trivial)⟩, ⟨zH31⟩, ⟨by (with_reducible repeat (first | refine zh ?_ _ | refine zm ?_ | refine zi ?_ _)); refine zz (cs := #[u163000, .slice Ao35 x163001_1.length co35, u163002]) ?_ 1 _ rfl; (with_reducible repeat (first | refine zh ?_ _ | refine zm ?_ | refine zi ?_ _)); exact BK162.out⟩, ⟨zH37⟩⟩
   rw [if_neg c14] at H
   have c14b0 : (((rd_T35 l0 x5_1).f3) == 3) = false := beq_eq_false_iff_ne.mpr c14
   have c14b1 : (((rd_T35 l0 x5_1).f3) != 3) = true := bne_iff_ne.mpr c14
   replace H := Option.bind_eq_some_iff.mp H
   obtain ⟨t172, A390, H⟩ := H
   replace H : (if t172 < 0 then (if x163000_1.length < 3518437208883 then (spec_LedgerOf.j1 k1 l0 x5_1 (x163000_1.length : Int) (x163000_1 ++ [(⟨(rd_T35 l0 x5_1).f4, 0, 0, 0⟩ : S39)]) x163001_1 x163002_1 ((rd_T35 l0 x5_1).f0) ((rd_T35 l0 x5_1).f1) ((rd_T35 l0 x5_1).f2) ((rd_T35 l0 x5_1).f3) ((rd_T35 l0 x5_1).f4) ((rd_T35 l0 x5_1).f5)) else (none)) else (spec_LedgerOf.j1 k1 l0 x5_1 t172 x163000_1 x163001_1 x163002_1 ((rd_T35 l0 x5_1).f0) ((rd_T35 l0 x5_1).f1) ((rd_T35 l0 x5_1).f2) ((rd_T35 l0 x5_1).f3) ((rd_T35 l0 x5_1).f4) ((rd_T35 l0 x5_1).f5))) = some (r1, r2, r3, r4) := H
   obtain ⟨A39, HC40⟩ := zD2 A390 H
   clear A390 H
   have p163 : 0 ≤ (x5_1 : Int) := zO
   have q163 : x5_1 < (l0.length : Int) := zO
   obtain ⟨ad163, e163, hx163_0, hx163_1, hx163_2, hx163_3, hx163_4, hx163_5⟩ := at_T35 HR0.out x5_1 p163 q163
   cases e163
   replace hx163_0 := (HB.out.cell (za w _ hx163_0)).trans hx163_0
   replace hx163_1 := (HB.out.cell (za w _ hx163_1)).trans hx163_1
   replace hx163_2 := (HB.out.cell (za w _ hx163_2)).trans hx163_2
   replace hx163_3 := (HB.out.cell (za w _ hx163_3)).trans hx163_3
   replace hx163_4 := (HB.out.cell (za w _ hx163_4)).trans hx163_4
   replace hx163_5 := (HB.out.cell (za w _ hx163_5)).trans hx163_5
   replace p163 := eq_true p163
   replace q163 := eq_true q163
   go_upto_if 54 with (first | ((with_reducible refine gate_dst (N := 6) rfl ?_); refine box_event ?hg (N := 6) ?hd (cs := #[.int .i64 0, .int .i64 0, .int .i64 0, .int .i64 0, .string (⟨#[]⟩ : ByteArray), .int .i64 0]) (t := 35) ?hr ?_; (case hd => rfl); (case hg => rfl); (case hr => exact zH101); intro gb164 hg w41 hbox hb; have n_ := zA_ (zb (zo zK165 hb)) (zA_ (zb (zo zK166 hb)) (zA_ (zb (zo zK167 hb)) (zA_ (zb (zt (g := gb160) (o := .cells #[.slice none 0 0, .slice none 0 0, .slice none 0 0] 31 (0, 0)) zG64 hb)) (zA_ (zb (zt (g := gb162) (o := .cells #[u163000, u163001, u163002] 31 (0, 0)) zK153 hb)) (zA_ (zb (zr zK141 hb)) (zA_ (zb (hbox)) (zA_ (zN1 w.heap.size hg (zq zK141)) (zA_ (zN1 w.heap.size hg (zq zK141)) (zN3 hg (zaa (g := gb160) (o := .cells #[.slice none 0 0, .slice none 0 0, .slice none 0 0] 31 (0, 0)) zG64) (zN2 hg (zaa (g := gb162) (o := .cells #[u163000, u163001, u163002] 31 (0, 0)) zK153))))))))))); clear HO_163000 HO_163001 HO_163002 BK160 BK162 HB; obtain ⟨HO_163000, HO_163001, HO_163002, BK160, BK162, HB, BK164, GW164, GE164, NB160_164, NB164_160, NB162_164, NB164_162⟩ := n_; clear hb hbox hg; have hnb42 := NB164_160.out; have hnc42 := NB160_164.out; have hnb43 := NB164_162.out; have hnc43 := NB162_164.out; have hcz44_0 : w41.cell? ⟨gb164, 0, none⟩ = some (.int .i64 0) := (q11a BK164.out 0).trans rfl; have hcz44_1 : w41.cell? ⟨gb164, 1, none⟩ = some (.int .i64 0) := (q11a BK164.out 1).trans rfl; have hcz44_2 : w41.cell? ⟨gb164, 2, none⟩ = some (.int .i64 0) := (q11a BK164.out 2).trans rfl; have hcz44_3 : w41.cell? ⟨gb164, 3, none⟩ = some (.int .i64 0) := (q11a BK164.out 3).trans rfl; have hcz44_4 : w41.cell? ⟨gb164, 4, none⟩ = some (.string (⟨#[]⟩ : ByteArray)) := (q11a BK164.out 4).trans rfl; have hcz44_5 : w41.cell? ⟨gb164, 5, none⟩ = some (.int .i64 0) := (q11a BK164.out 5).trans rfl; have hfz44_0 := zd BK164.out 0; have hfz44_1 := zd BK164.out 1; have hfz44_2 := zd BK164.out 2; have hfz44_3 := zd BK164.out 3; have hfz44_4 := zd BK164.out 4; have hfz44_5 := zd BK164.out 5; have hnb45 := NB162_160.out; have hnc45 := NB160_162.out; have hcz46_0 : w41.cell? ⟨gb162, 0, none⟩ = some (u163000) := (q11a BK162.out 0).trans rfl; have hcz46_1 : w41.cell? ⟨gb162, 1, none⟩ = some (u163001) := (q11a BK162.out 1).trans rfl; have hcz46_2 : w41.cell? ⟨gb162, 2, none⟩ = some (u163002) := (q11a BK162.out 2).trans rfl; have hfz46_0 := zd BK162.out 0; have hfz46_1 := zd BK162.out 1; have hfz46_2 := zd BK162.out 2; obtain ⟨Ao47, co47, eo47⟩ := zy HO_163000.out; subst eo47) | ((with_reducible refine gate_callee (f := 30) rfl ?_); refine goesL_ (some 52) rfl rfl Try.func30 zG75 rfl #[.slice Ao47 x163000_1.length co47, .string ((rd_T35 l0 x5_1).f4)] rfl zG55 ?_; (with_reducible refine (spec_l12Card.calls k1 _ _ x163000_1 ((rd_T35 l0 x5_1).f4) t172 _ ?side1 ?side2 A39.out).mono ?_); (case side1 => refine (Kd.R_reads' (e := 39) (base := w.heap.size) (ok := fun k_ => True) (n := x163000_1.length) (c := co47) ?_).2.2; exact zK113); (case side2 => exact (Kd.R_reads' HO_163000.out).2.1); rintro e w' ⟨rfl, ⟨nd, rfl⟩⟩; refine ⟨_, rfl, ?_⟩))
   (try simp only [Act.put, List.setIfInBounds_toArray, List.set_cons_zero, List.set_cons_succ])
   go_cut [7] (fun v7 wc => ∃ (kq : Nat) (x7_39 : Int) (x163000_39 : List (S39)) (u163000 : Value), v7 = .int .i64 x7_39 ∧ Aside0 (spec_LedgerOf.j1 kq l0 x5_1 x7_39 x163000_39 x163001_1 x163002_1 ((rd_T35 l0 x5_1).f0) ((rd_T35 l0 x5_1).f1) ((rd_T35 l0 x5_1).f2) ((rd_T35 l0 x5_1).f3) ((rd_T35 l0 x5_1).f4) ((rd_T35 l0 x5_1).f5) = some (r1, r2, r3, r4)) ∧ Aside0 (kq ≤ k1) ∧ Aside0 (Kd.R k39 39 wc w.heap.size (fun _ => True) u163000 x163000_39) ∧ Aside0 (Kd.R Kd.string 9 wc w.heap.size (fun _ => True) u163001 x163001_1) ∧ Aside0 (Kd.R (Kd.int .i64) 3 wc w.heap.size (fun _ => True) u163002 x163002_1) ∧ Aside0 (wc.heap[gb160]? = some (.cells #[(.slice none 0 0), (.slice none 0 0), (.slice none 0 0)] 31 (0, 0))) ∧ Aside0 (wc.heap[gb162]? = some (.cells #[u163000, u163001, u163002] 31 (0, 0))) ∧ Aside0 (wc.heap[gb164]? = some (.cells #[.int .i64 ((rd_T35 l0 x5_1).f0), .int .i64 ((rd_T35 l0 x5_1).f1), .int .i64 ((rd_T35 l0 x5_1).f2), .int .i64 ((rd_T35 l0 x5_1).f3), .string ((rd_T35 l0 x5_1).f4), .int .i64 ((rd_T35 l0 x5_1).f5)] 35 (0, 0))) ∧ Aside0 (Below w.heap.size w wc))
   case first =>
    have H := HC40.out
    clear HC40
    by_cases c48 : t172 < 0
    rotate_left
    ·rw [if_neg c48] at H
     have c48b0 := decide_eq_false c48
     clear c48
     (first | rw [c48b0] | (simp only [i64_w, i32_w]; rw [c48b0]) | skip)
     have H' := zb H
     clear H
     go_wp2
     go_meet
     case rel => exact ⟨_, (t172), (x163000_1), (.slice Ao47 x163000_1.length co47), zG74, H', ⟨zH99⟩, ⟨by (with_reducible repeat (first | apply zj | apply zk | apply zl)); exact zp (zn (p := ⟨gb164, 5, none⟩) (zn (p := ⟨gb164, 4, none⟩) (zn (p := ⟨gb164, 3, none⟩) (zn (p := ⟨gb164, 2, none⟩) (zn (p := ⟨gb164, 1, none⟩) (zn (p := ⟨gb164, 0, none⟩) (zs HO_163000.out BK164.out zG76) (fun _ hk => hk.2) (.int .i64 ((rd_T35 l0 x5_1).f0))) (fun _ hk => hk.2) (.int .i64 ((rd_T35 l0 x5_1).f1))) (fun _ hk => hk.2) (.int .i64 ((rd_T35 l0 x5_1).f2))) (fun _ hk => hk.2) (.int .i64 ((rd_T35 l0 x5_1).f3))) (fun _ hk => hk.2) (.string ((rd_T35 l0 x5_1).f4))) (fun _ hk => hk.2) (.int .i64 ((rd_T35 l0 x5_1).f5))) (fun _ hk => trivial)⟩, ⟨by (with_reducible repeat (first | apply zj | apply zk | apply zl)); exact zp (zn (p := ⟨gb164, 5, none⟩) (zn (p := ⟨gb164, 4, none⟩) (zn (p := ⟨gb164, 3, none⟩) (zn (p := ⟨gb164, 2, none⟩) (zn (p := ⟨gb164, 1, none⟩) (zn (p := ⟨gb164, 0, none⟩) (zs HO_163001.out BK164.out zG76) (fun _ hk => hk.2) (.int .i64 ((rd_T35 l0 x5_1).f0))) (fun _ hk => hk.2) (.int .i64 ((rd_T35 l0 x5_1).f1))) (fun _ hk => hk.2) (.int .i64 ((rd_T35 l0 x5_1).f2))) (fun _ hk => hk.2) (.int .i64 ((rd_T35 l0 x5_1).f3))) (fun _ hk => hk.2) (.string ((rd_T35 l0 x5_1).f4))) (fun _ hk => hk.2) (.int .i64 ((rd_T35 l0 x5_1).f5))) (fun _ hk => trivial)⟩, ⟨by (with_reducible repeat (first | apply zj | apply zk | apply zl)); exact zp (zn (p := ⟨gb164, 5, none⟩) (zn (p := ⟨gb164, 4, none⟩) (zn (p := ⟨gb164, 3, none⟩) (zn (p := ⟨gb164, 2, none⟩) (zn (p := ⟨gb164, 1, none⟩) (zn (p := ⟨gb164, 0, none⟩) (zs HO_163002.out BK164.out zG76) (fun _ hk => hk.2) (.int .i64 ((rd_T35 l0 x5_1).f0))) (fun _ hk => hk.2) (.int .i64 ((rd_T35 l0 x5_1).f1))) (fun _ hk => hk.2) (.int .i64 ((rd_T35 l0 x5_1).f2))) (fun _ hk => hk.2) (.int .i64 ((rd_T35 l0 x5_1).f3))) (fun _ hk => hk.2) (.string ((rd_T35 l0 x5_1).f4))) (fun _ hk => hk.2) (.int .i64 ((rd_T35 l0 x5_1).f5))) (fun _ hk => trivial)⟩, ⟨by (with_reducible repeat (first | refine zh ?_ _ | refine zm ?_ | refine zi ?_ _)); refine zx ?_ NB160_164.out _; (with_reducible repeat (first | refine zh ?_ _ | refine zm ?_ | refine zi ?_ _)); refine zx ?_ NB160_164.out _; (with_reducible repeat (first | refine zh ?_ _ | refine zm ?_ | refine zi ?_ _)); refine zx ?_ NB160_164.out _; (with_reducible repeat (first | refine zh ?_ _ | refine zm ?_ | refine zi ?_ _)); refine zx ?_ NB160_164.out _; (with_reducible repeat (first | refine zh ?_ _ | refine zm ?_ | refine zi ?_ _)); refine zx ?_ NB160_164.out _; (with_reducible repeat (first | refine zh ?_ _ | refine zm ?_ | refine zi ?_ _)); refine zx ?_ NB160_164.out _; (with_reducible repeat (first | refine zh ?_ _ | refine zm ?_ | refine zi ?_ _)); exact BK160.out⟩, ⟨by (with_reducible repeat (first | refine zh ?_ _ | refine zm ?_ | refine zi ?_ _)); refine zx ?_ NB162_164.out _; (with_reducible repeat (first | refine zh ?_ _ | refine zm ?_ | refine zi ?_ _)); refine zx ?_ NB162_164.out _; (with_reducible repeat (first | refine zh ?_ _ | refine zm ?_ | refine zi ?_ _)); refine zx ?_ NB162_164.out _; (with_reducible repeat (first | refine zh ?_ _ | refine zm ?_ | refine zi ?_ _)); refine zx ?_ NB162_164.out _; (with_reducible repeat (first | refine zh ?_ _ | refine zm ?_ | refine zi ?_ _)); refine zx ?_ NB162_164.out _; (with_reducible repeat (first | refine zh ?_ _ | refine zm ?_ | refine zi ?_ _)); refine zx ?_ NB162_164.out _; (with_reducible repeat (first | refine zh ?_ _ | refine zm ?_ | refine zi ?_ _)); exact BK162.out⟩, ⟨by (with_reducible repeat (first | refine zh ?_ _ | refine zm ?_ | refine zi ?_ _)); refine zz (cs := #[.int .i64 ((rd_T35 l0 x5_1).f0), .int .i64 ((rd_T35 l0 x5_1).f1), .int .i64 ((rd_T35 l0 x5_1).f2), .int .i64 ((rd_T35 l0 x5_1).f3), .string ((rd_T35 l0 x5_1).f4), .int .i64 0]) ?_ 5 _ rfl; (with_reducible repeat (first | refine zh ?_ _ | refine zm ?_ | refine zi ?_ _)); refine zz (cs := #[.int .i64 ((rd_T35 l0 x5_1).f0), .int .i64 ((rd_T35 l0 x5_1).f1), .int .i64 ((rd_T35 l0 x5_1).f2), .int .i64 ((rd_T35 l0 x5_1).f3), .string (⟨#[]⟩ : ByteArray), .int .i64 0]) ?_ 4 _ rfl; (with_reducible repeat (first | refine zh ?_ _ | refine zm ?_ | refine zi ?_ _)); refine zz (cs := #[.int .i64 ((rd_T35 l0 x5_1).f0), .int .i64 ((rd_T35 l0 x5_1).f1), .int .i64 ((rd_T35 l0 x5_1).f2), .int .i64 0, .string (⟨#[]⟩ : ByteArray), .int .i64 0]) ?_ 3 _ rfl; (with_reducible repeat (first | refine zh ?_ _ | refine zm ?_ | refine zi ?_ _)); refine zz (cs := #[.int .i64 ((rd_T35 l0 x5_1).f0), .int .i64 ((rd_T35 l0 x5_1).f1), .int .i64 0, .int .i64 0, .string (⟨#[]⟩ : ByteArray), .int .i64 0]) ?_ 2 _ rfl; (with_reducible repeat (first | refine zh ?_ _ | refine zm ?_ | refine zi ?_ _)); refine zz (cs := #[.int .i64 ((rd_T35 l0 x5_1).f0), .int .i64 0, .int .i64 0, .int .i64 0, .string (⟨#[]⟩ : ByteArray), .int .i64 0]) ?_ 1 _ rfl; (with_reducible repeat (first | refine zh ?_ _ | refine zm ?_ | refine zi ?_ _)); refine zz (cs := #[.int .i64 0, .int .i64 0, .int .i64 0, .int .i64 0, .string (⟨#[]⟩ : ByteArray), .int .i64 0]) ?_ 0 _ rfl; (with_reducible repeat (first | refine zh ?_ _ | refine zm ?_ | refine zi ?_ _)); exact BK164.out⟩, ⟨zH37⟩⟩
    rw [if_pos c48] at H
    have c48b0 := decide_eq_true c48
    clear c48
    (first | rw [c48b0] | (simp only [i64_w, i32_w]; rw [c48b0]) | skip)
    by_cases c49 : x163000_1.length < 3518437208883
    rotate_left
    ·rw [if_neg c49] at H
     exact absurd H (by simp)
    rw [if_pos c49] at H
    have LMc49 := zb c49
    clear c49
    obtain ⟨y173, hy173⟩ : ∃ y_ : List (S39), y_ = (x163000_1 ++ [(⟨(rd_T35 l0 x5_1).f4, 0, 0, 0⟩ : S39)]) := ⟨_, rfl⟩
    replace H : (spec_LedgerOf.j1 k1 l0 x5_1 (x163000_1.length : Int) y173 x163001_1 x163002_1 ((rd_T35 l0 x5_1).f0) ((rd_T35 l0 x5_1).f1) ((rd_T35 l0 x5_1).f2) ((rd_T35 l0 x5_1).f3) ((rd_T35 l0 x5_1).f4) ((rd_T35 l0 x5_1).f5)) = some (r1, r2, r3, r4) := by first | (rw [hy173]; with_reducible exact H) | (have H2_ := (Option.bind_some _ _).symm.trans H; rw [hy173]; with_reducible exact H2_) | (have H2_ := (Option.bind_some _ _).symm.trans H; with_reducible exact H2_) | with_reducible exact H | (rw [hy173]; exact H) | exact H
    have Ny173 := zb hy173
    clear hy173
    have H' := zb H
    clear H
    have hnb50 := NB162_160.out
    have hnc50 := NB160_162.out
    have hnb51 := NB162_164.out
    have hnc51 := NB164_162.out
    have hcz52_0 : w41.cell? ⟨gb162, 0, none⟩ = some (.slice Ao47 x163000_1.length co47) := (q11a BK162.out 0).trans rfl
    have hcz52_1 : w41.cell? ⟨gb162, 1, none⟩ = some (u163001) := (q11a BK162.out 1).trans rfl
    have hcz52_2 : w41.cell? ⟨gb162, 2, none⟩ = some (u163002) := (q11a BK162.out 2).trans rfl
    have hfz52_0 := zd BK162.out 0
    have hfz52_1 := zd BK162.out 1
    have hfz52_2 := zd BK162.out 2
    have hnb53 := NB164_160.out
    have hnc53 := NB160_164.out
    have hcz54_0 : w41.cell? ⟨gb164, 0, none⟩ = some (.int .i64 0) := (q11a BK164.out 0).trans rfl
    have hcz54_1 : w41.cell? ⟨gb164, 1, none⟩ = some (.int .i64 0) := (q11a BK164.out 1).trans rfl
    have hcz54_2 : w41.cell? ⟨gb164, 2, none⟩ = some (.int .i64 0) := (q11a BK164.out 2).trans rfl
    have hcz54_3 : w41.cell? ⟨gb164, 3, none⟩ = some (.int .i64 0) := (q11a BK164.out 3).trans rfl
    have hcz54_4 : w41.cell? ⟨gb164, 4, none⟩ = some (.string (⟨#[]⟩ : ByteArray)) := (q11a BK164.out 4).trans rfl
    have hcz54_5 : w41.cell? ⟨gb164, 5, none⟩ = some (.int .i64 0) := (q11a BK164.out 5).trans rfl
    have hfz54_0 := zd BK164.out 0
    have hfz54_1 := zd BK164.out 1
    have hfz54_2 := zd BK164.out 2
    have hfz54_3 := zd BK164.out 3
    have hfz54_4 := zd BK164.out 4
    have hfz54_5 := zd BK164.out 5
    go_wp2_with (first | ((with_reducible refine gate_builtin (b := .append) (xs := #[.tmp 59, .tmp 63]) rfl ?_); at_builtin; refine zbb k39 (w0 := w) w.heap.size rfl (.tmp 59) (.tmp 63) 27 39 (.agg #[(.string ⟨#[]⟩), (.int .i64 0), (.int .i64 0), (.int .i64 0)]) 40 rfl Try.underlying27 info39 rfl zG76 (by omega) (.slice Ao47 x163000_1.length co47) x163000_1 (⟨(rd_T35 l0 x5_1).f4, 0, 0, 0⟩ : S39) [.string ((rd_T35 l0 x5_1).f4), .int .i64 0, .int .i64 0, .int .i64 0] (fun _ => True) (fun _ => False) rfl zK176 ?aP (fun _ hk => hk.elim) ?aF ?aO ?aB ?aS ?aL ?_; (case aP => exact k39_mkM _ _ _ (⟨(rd_T35 l0 x5_1).f4, 0, 0, 0⟩ : S39)); (case aB => exact zH36); (case aF => exact (fun _ _ => trivial)); (case aO => exact (by (with_reducible repeat (first | apply zj | apply zk | apply zl)); exact zp (zn (p := ⟨gb164, 5, none⟩) (zn (p := ⟨gb164, 4, none⟩) (zn (p := ⟨gb164, 3, none⟩) (zn (p := ⟨gb164, 2, none⟩) (zn (p := ⟨gb164, 1, none⟩) (zn (p := ⟨gb164, 0, none⟩) (zs HO_163000.out BK164.out zG76) (fun _ hk => hk.2) (.int .i64 ((rd_T35 l0 x5_1).f0))) (fun _ hk => hk.2) (.int .i64 ((rd_T35 l0 x5_1).f1))) (fun _ hk => hk.2) (.int .i64 ((rd_T35 l0 x5_1).f2))) (fun _ hk => hk.2) (.int .i64 ((rd_T35 l0 x5_1).f3))) (fun _ hk => hk.2) (.string ((rd_T35 l0 x5_1).f4))) (fun _ hk => hk.2) (.int .i64 ((rd_T35 l0 x5_1).f5))) (fun _ hk => trivial))); (case aS => exact zH35); (case aL => have := LMc49.out; omega); intro v174 w55 ho hb hg hat; rw [← Ny173.out] at ho; have n_ := zA_ (zb (zav zK112 (zac zK113) zG76 hg)) (zA_ (zb (zav zK114 (zac zK113) zG76 hg)) (zA_ (zb (zar (g := gb160) (o := .cells #[.slice none 0 0, .slice none 0 0, .slice none 0 0] 31 (0, 0)) zK108 hg (zae HO_163000.out BK160.out zG76))) (zA_ (zb (zar (g := gb162) (o := .cells #[.slice Ao47 x163000_1.length co47, u163001, u163002] 31 (0, 0)) zK109 hg (zae HO_163000.out BK162.out zG76))) (zA_ (zb (zar (g := gb164) (o := .cells #[.int .i64 ((rd_T35 l0 x5_1).f0), .int .i64 ((rd_T35 l0 x5_1).f1), .int .i64 ((rd_T35 l0 x5_1).f2), .int .i64 ((rd_T35 l0 x5_1).f3), .string ((rd_T35 l0 x5_1).f4), .int .i64 ((rd_T35 l0 x5_1).f5)] 35 (0, 0)) zK107 hg (zae HO_163000.out BK164.out zG76))) (zA_ (zb (hb)) (zb (ho))))))); clear HO_163001 HO_163002 BK160 BK162 BK164 HB HO_163000; obtain ⟨HO_163001, HO_163002, BK160, BK162, BK164, HB, HO175⟩ := n_; clear ho hb hg hat; obtain ⟨Ao56, co56, eo56⟩ := zy HO175.out; subst eo56; have hcz57_0 : w55.cell? ⟨gb162, 0, none⟩ = some (.slice Ao47 x163000_1.length co47) := (q11a BK162.out 0).trans rfl; have hcz57_1 : w55.cell? ⟨gb162, 1, none⟩ = some (u163001) := (q11a BK162.out 1).trans rfl; have hcz57_2 : w55.cell? ⟨gb162, 2, none⟩ = some (u163002) := (q11a BK162.out 2).trans rfl; have hfz57_0 := zd BK162.out 0; have hfz57_1 := zd BK162.out 1; have hfz57_2 := zd BK162.out 2))
    go_meet
    case rel => exact ⟨_, ((x163000_1.length : Int)), (y173), (.slice Ao56 y173.length co56), zG74, H', ⟨zH99⟩, ⟨by (with_reducible repeat (first | apply zj | apply zk | apply zl)); exact zp (zn (p := ⟨gb162, 0, none⟩) (zs HO175.out BK162.out zG76) (fun _ hk => hk.2) (.slice Ao56 y173.length co56)) (fun _ hk => trivial)⟩, ⟨by (with_reducible repeat (first | apply zj | apply zk | apply zl)); exact zp (zn (p := ⟨gb162, 0, none⟩) (zs HO_163001.out BK162.out zG76) (fun _ hk => hk.2) (.slice Ao56 y173.length co56)) (fun _ hk => trivial)⟩, ⟨by (with_reducible repeat (first | apply zj | apply zk | apply zl)); exact zp (zn (p := ⟨gb162, 0, none⟩) (zs HO_163002.out BK162.out zG76) (fun _ hk => hk.2) (.slice Ao56 y173.length co56)) (fun _ hk => trivial)⟩, ⟨zH31⟩, ⟨by (with_reducible repeat (first | refine zh ?_ _ | refine zm ?_ | refine zi ?_ _)); refine zz (cs := #[.slice Ao47 x163000_1.length co47, u163001, u163002]) ?_ 0 _ rfl; (with_reducible repeat (first | refine zh ?_ _ | refine zm ?_ | refine zi ?_ _)); exact BK162.out⟩, ⟨zH30⟩, ⟨zH37⟩⟩
   case rest =>
    clear HC40
    try clear c2
    try clear c2b0
    try clear c2b1
    try clear c6
    try clear c12
    try clear c12b0
    try clear c13
    try clear c13b0
    try clear c14
    try clear c14b0
    try clear c14b1
    try clear c16
    try clear c17
    try clear c28
    try clear c48
    try clear c48b0
    try clear c49
    try clear hcz11_0
    try clear hcz11_1
    try clear hcz11_2
    try clear hcz21_0
    try clear hcz21_1
    try clear hcz21_2
    try clear hcz21_3
    try clear hcz21_4
    try clear hcz21_5
    try clear hcz23_0
    try clear hcz23_1
    try clear hcz23_2
    try clear hcz27_0
    try clear hcz27_1
    try clear hcz27_2
    try clear hcz32_0
    try clear hcz32_1
    try clear hcz32_2
    try clear hcz32_3
    try clear hcz32_4
    try clear hcz32_5
    try clear hcz34_0
    try clear hcz34_1
    try clear hcz34_2
    try clear hcz38_0
    try clear hcz38_1
    try clear hcz38_2
    try clear hcz44_0
    try clear hcz44_1
    try clear hcz44_2
    try clear hcz44_3
    try clear hcz44_4
    try clear hcz44_5
    try clear hcz46_0
    try clear hcz46_1
    try clear hcz46_2
    try clear hcz4_0
    try clear hcz4_1
    try clear hcz4_2
    try clear hcz52_0
    try clear hcz52_1
    try clear hcz52_2
    try clear hcz54_0
    try clear hcz54_1
    try clear hcz54_2
    try clear hcz54_3
    try clear hcz54_4
    try clear hcz54_5
    try clear hcz57_0
    try clear hcz57_1
    try clear hcz57_2
    try clear hfz11_0
    try clear hfz11_1
    try clear hfz11_2
    try clear hfz21_0
    try clear hfz21_1
    try clear hfz21_2
    try clear hfz21_3
    try clear hfz21_4
    try clear hfz21_5
    try clear hfz23_0
    try clear hfz23_1
    try clear hfz23_2
    try clear hfz27_0
    try clear hfz27_1
    try clear hfz27_2
    try clear hfz32_0
    try clear hfz32_1
    try clear hfz32_2
    try clear hfz32_3
    try clear hfz32_4
    try clear hfz32_5
    try clear hfz34_0
    try clear hfz34_1
    try clear hfz34_2
    try clear hfz38_0
    try clear hfz38_1
    try clear hfz38_2
    try clear hfz44_0
    try clear hfz44_1
    try clear hfz44_2
    try clear hfz44_3
    try clear hfz44_4
    try clear hfz44_5
    try clear hfz46_0
    try clear hfz46_1
    try clear hfz46_2
    try clear hfz4_0
    try clear hfz4_1
    try clear hfz4_2
    try clear hfz52_0
    try clear hfz52_1
    try clear hfz52_2
    try clear hfz54_0
    try clear hfz54_1
    try clear hfz54_2
    try clear hfz54_3
    try clear hfz54_4
    try clear hfz54_5
    try clear hfz57_0
    try clear hfz57_1
    try clear hfz57_2
    try clear hx163_0
    try clear hx163_1
    try clear hx163_2
    try clear hx163_3
    try clear hx163_4
    try clear hx163_5
    try clear p163
    try clear q163
    obtain ⟨kq, x7_39, x163000_39, u163000, rfl, HA, HJ39, HO_163000, HO_163001, HO_163002, BK160, BK162, BK164, HB⟩ := hcut
    cases kq with
    | zero => exact absurd HA.out (by simp [spec_LedgerOf.j1])
    | succ kj39 =>
     have H := HA.out
     clear HA
     simp only [spec_LedgerOf.j1] at H
     by_cases c58 : ((rd_T35 l0 x5_1).f3) = 1
     ·rw [if_pos c58] at H
      have c58b0 : (((rd_T35 l0 x5_1).f3) == 1) = true := beq_iff_eq.mpr c58
      have c58b1 : (((rd_T35 l0 x5_1).f3) != 1) = false := bne_eq_false_iff_eq.mpr c58
      clear c58
      by_cases c59 : 0 ≤ x7_39
      rotate_left
      ·rw [if_neg c59] at H
       exact absurd H (by simp)
      rw [if_pos c59] at H
      have c59b0 := decide_eq_true c59
      clear c59
      by_cases c60 : x7_39 < (x163000_39.length : Int)
      rotate_left
      ·rw [if_neg c60] at H
       exact absurd H (by simp)
      rw [if_pos c60] at H
      have c60b0 := decide_eq_true c60
      clear c60
      obtain ⟨y177, hy177⟩ : ∃ y_ : List (S39), y_ = (x163000_39.set (x7_39 : Int).toNat (⟨(rd_T39 x163000_39 x7_39).f0, (rd_T39 x163000_39 x7_39).f1, wrap64 (((rd_T39 x163000_39 x7_39).f2) + ((rd_T35 l0 x5_1).f5)), (rd_T39 x163000_39 x7_39).f3⟩ : S39)) := ⟨_, rfl⟩
      replace H : (spec_LedgerOf.l0 kj39 l0 (wrap64 (x5_1 + 1)) (y177.set (x7_39 : Int).toNat (⟨(rd_T39 y177 x7_39).f0, wrap64 (((rd_T39 y177 x7_39).f2) - ((rd_T39 y177 x7_39).f3)), (rd_T39 y177 x7_39).f2, (rd_T39 y177 x7_39).f3⟩ : S39)) x163001_1 x163002_1) = some (r1, r2, r3, r4) := by first | (rw [hy177]; with_reducible exact H) | (have H2_ := (Option.bind_some _ _).symm.trans H; rw [hy177]; with_reducible exact H2_) | (have H2_ := (Option.bind_some _ _).symm.trans H; with_reducible exact H2_) | with_reducible exact H | (rw [hy177]; exact H) | exact H
      have Ny177 := zb hy177
      clear hy177
      obtain ⟨y180, hy180⟩ : ∃ y_ : List (S39), y_ = (y177.set (x7_39 : Int).toNat (⟨(rd_T39 y177 x7_39).f0, wrap64 (((rd_T39 y177 x7_39).f2) - ((rd_T39 y177 x7_39).f3)), (rd_T39 y177 x7_39).f2, (rd_T39 y177 x7_39).f3⟩ : S39)) := ⟨_, rfl⟩
      replace H : (spec_LedgerOf.l0 kj39 l0 (wrap64 (x5_1 + 1)) y180 x163001_1 x163002_1) = some (r1, r2, r3, r4) := by first | (rw [hy180]; with_reducible exact H) | (have H2_ := (Option.bind_some _ _).symm.trans H; rw [hy180]; with_reducible exact H2_) | (have H2_ := (Option.bind_some _ _).symm.trans H; with_reducible exact H2_) | with_reducible exact H | (rw [hy180]; exact H) | exact H
      have Ny180 := zb hy180
      clear hy180
      have H' := zb H
      clear H
      have hnb63 := NB164_160.out
      have hnc63 := NB160_164.out
      have hnb64 := NB164_162.out
      have hnc64 := NB162_164.out
      have hcz65_0 : wc.cell? ⟨gb164, 0, none⟩ = some (.int .i64 ((rd_T35 l0 x5_1).f0)) := (q11a BK164.out 0).trans rfl
      have hcz65_1 : wc.cell? ⟨gb164, 1, none⟩ = some (.int .i64 ((rd_T35 l0 x5_1).f1)) := (q11a BK164.out 1).trans rfl
      have hcz65_2 : wc.cell? ⟨gb164, 2, none⟩ = some (.int .i64 ((rd_T35 l0 x5_1).f2)) := (q11a BK164.out 2).trans rfl
      have hcz65_3 : wc.cell? ⟨gb164, 3, none⟩ = some (.int .i64 ((rd_T35 l0 x5_1).f3)) := (q11a BK164.out 3).trans rfl
      have hcz65_4 : wc.cell? ⟨gb164, 4, none⟩ = some (.string ((rd_T35 l0 x5_1).f4)) := (q11a BK164.out 4).trans rfl
      have hcz65_5 : wc.cell? ⟨gb164, 5, none⟩ = some (.int .i64 ((rd_T35 l0 x5_1).f5)) := (q11a BK164.out 5).trans rfl
      have hfz65_0 := zd BK164.out 0
      have hfz65_1 := zd BK164.out 1
      have hfz65_2 := zd BK164.out 2
      have hfz65_3 := zd BK164.out 3
      have hfz65_4 := zd BK164.out 4
      have hfz65_5 := zd BK164.out 5
      try go_wp2
      obtain ⟨n0_, n1_, n2_, n3_, n4_, n5_, n6_⟩ := zD7 (zl HO_163000.out) (zl HO_163001.out) (zl HO_163002.out) (zm BK160.out) (zm BK162.out) (zm BK164.out) (ze HB.out)
      clear HO_163000 HO_163001 HO_163002 BK160 BK162 BK164 HB
      have HO_163000 := n0_
      have HO_163001 := n1_
      have HO_163002 := n2_
      have BK160 := n3_
      have BK162 := n4_
      have BK164 := n5_
      have HB := n6_
      clear n0_ n1_ n2_ n3_ n4_ n5_ n6_
      obtain ⟨Ao67, co67, eo67⟩ := zy HO_163000.out
      (first | subst eo67 | (injection eo67 with f1_ f2_ f3_; have f4_ := f1_.symm; have f5_ := f3_.symm; clear f1_ f2_ f3_; subst f4_; subst f5_))
      have p176 : 0 ≤ (x7_39 : Int) := zO
      have q176 : x7_39 < (x163000_39.length : Int) := zO
      obtain ⟨ad176, e176, hx176_0, hx176_1, hx176_2, hx176_3⟩ := at_T39 (Kd.R_reads' HO_163000.out).2.2 x7_39 p176 q176
      cases e176
      replace p176 := eq_true p176
      replace q176 := eq_true q176
      have p61 : 0 ≤ (x7_39 : Int) := zO
      have q61 : (x7_39 : Int) < ((x163000_39.length : Int) : Int) := zO
      obtain ⟨go61, co61, eo61, gb61, gl61, cl61, HG61⟩ := zas HO_163000.out (by omega)
      (first | cases eo61 | (injection eo61 with ea_ en_ ec_; (first | subst ea_ | (injection ea_ with ea_; subst ea_)); subst ec_; clear en_))
      obtain ⟨GB61, GG61⟩ := zD2 gb61 HG61
      clear gb61 gl61 HG61
      (first | simp only [add_plain] at hx176_0 | skip)
      (first | simp only [add_plain] at hx176_1 | skip)
      (first | simp only [add_plain] at hx176_2 | skip)
      (first | simp only [add_plain] at hx176_3 | skip)
      obtain ⟨ce61, hcl61, hM61, hcc61, hfr61⟩ := zaf HO_163000.out z39 (x7_39 : Int) p61 q61
      obtain rfl := k39_openM hM61
      have hx61_0 : World.cell? _ ⟨go61, (x7_39 : Int).toNat * 4, none⟩ = some (.string ((rd_T39 x163000_39 x7_39).f0)) := hcc61 0 _ rfl
      have hx61_1 : World.cell? _ ⟨go61, (x7_39 : Int).toNat * 4 + 1, none⟩ = some (.int .i64 ((rd_T39 x163000_39 x7_39).f1)) := hcc61 1 _ rfl
      have hx61_2 : World.cell? _ ⟨go61, (x7_39 : Int).toNat * 4 + 2, none⟩ = some (.int .i64 ((rd_T39 x163000_39 x7_39).f2)) := hcc61 2 _ rfl
      have hx61_3 : World.cell? _ ⟨go61, (x7_39 : Int).toNat * 4 + 3, none⟩ = some (.int .i64 ((rd_T39 x163000_39 x7_39).f3)) := hcc61 3 _ rfl
      have hf61_0 : World.frozen? _ ⟨go61, (x7_39 : Int).toNat * 4, none⟩ = false := hfr61 0
      have hf61_1 : World.frozen? _ ⟨go61, (x7_39 : Int).toNat * 4 + 1, none⟩ = false := hfr61 1
      have hf61_2 : World.frozen? _ ⟨go61, (x7_39 : Int).toNat * 4 + 2, none⟩ = false := hfr61 2
      have hf61_3 : World.frozen? _ ⟨go61, (x7_39 : Int).toNat * 4 + 3, none⟩ = false := hfr61 3
      clear hcl61 hcc61 hfr61 hM61
      replace p61 := eq_true p61
      replace q61 := eq_true q61
      obtain ⟨ce68, hcl68, hM68, hcc68, hfr68⟩ := zaf HO_163000.out z39 (x7_39 : Int) zO (by have h_ : (x7_39 : Int) < ((x163000_39.length : Int) : Int) := zO; first | exact h_ | (have e_ := (Kd.R_reads' HO_163000.out).1; omega) | simpa using h_)
      obtain rfl := k39_openM hM68
      have HP68 := (zaj HO_163000.out (x7_39 : Int) zO (by have h_ : (x7_39 : Int) < ((x163000_39.length : Int) : Int) := zO; first | exact h_ | (have e_ := (Kd.R_reads' HO_163000.out).1; omega) | simpa using h_) (seg := [.int .i64 (wrap64 (((rd_T39 x163000_39 x7_39).f2) + ((rd_T35 l0 x5_1).f5)))]) (j := 2) hcl68 hcc68 (show 3 ≤ 4 from by decide) (x' := (⟨(rd_T39 x163000_39 x7_39).f0, (rd_T39 x163000_39 x7_39).f1, wrap64 (((rd_T39 x163000_39 x7_39).f2) + ((rd_T35 l0 x5_1).f5)), (rd_T39 x163000_39 x7_39).f3⟩ : S39)) (k39_mkM _ _ _ (⟨(rd_T39 x163000_39 x7_39).f0, (rd_T39 x163000_39 x7_39).f1, wrap64 (((rd_T39 x163000_39 x7_39).f2) + ((rd_T35 l0 x5_1).f5)), (rd_T39 x163000_39 x7_39).f3⟩ : S39) ) (fun _ hk => hk)).1
      rw [← Ny177.out] at HP68
      have HQ68 := zb HP68
      clear hcl68 hcc68 hfr68 hM68 HP68
      refine start_ (n := 12) (S := fun w' => w'.cell? ⟨gb162, 0, none⟩ = some (.slice (some ⟨go61, 0, none⟩) x163000_39.length co67) ∧ w'.cell? ⟨gb162, 1, none⟩ = some (u163001) ∧ w'.cell? ⟨gb162, 2, none⟩ = some (u163002) ∧ w'.cell? ⟨gb164, 0, none⟩ = some (.int .i64 ((rd_T35 l0 x5_1).f0)) ∧ w'.cell? ⟨gb164, 1, none⟩ = some (.int .i64 ((rd_T35 l0 x5_1).f1)) ∧ w'.cell? ⟨gb164, 2, none⟩ = some (.int .i64 ((rd_T35 l0 x5_1).f2)) ∧ w'.cell? ⟨gb164, 3, none⟩ = some (.int .i64 ((rd_T35 l0 x5_1).f3)) ∧ w'.cell? ⟨gb164, 4, none⟩ = some (.string ((rd_T35 l0 x5_1).f4)) ∧ w'.cell? ⟨gb164, 5, none⟩ = some (.int .i64 ((rd_T35 l0 x5_1).f5)) ∧ w'.cell? ⟨go61, ((x7_39).toNat * 4), none⟩ = some (.string ((rd_T39 x163000_39 x7_39).f0)) ∧ w'.cell? ⟨go61, ((x7_39).toNat * 4) + 1, none⟩ = some (.int .i64 ((rd_T39 x163000_39 x7_39).f1)) ∧ w'.cell? ⟨go61, ((x7_39).toNat * 4) + 2, none⟩ = some (.int .i64 ((rd_T39 x163000_39 x7_39).f2)) ∧ w'.cell? ⟨go61, ((x7_39).toNat * 4) + 3, none⟩ = some (.int .i64 ((rd_T39 x163000_39 x7_39).f3))) (ds := [11]) b11A20 zG75 rfl rfl ⟨(q11a BK162.out 0).trans rfl, (q11a BK162.out 1).trans rfl, (q11a BK162.out 2).trans rfl, (q11a BK164.out 0).trans rfl, (q11a BK164.out 1).trans rfl, (q11a BK164.out 2).trans rfl, (q11a BK164.out 3).trans rfl, (q11a BK164.out 4).trans rfl, (q11a BK164.out 5).trans rfl, hx176_0, hx176_1, hx176_2, hx176_3⟩ (fun hHeld => ?_); refine with_tabW spec_LedgerOf.tab19 spec_LedgerOf.bits19 (fun HT_ HW_ => ?_)
      generalize wc.drew = w66 at HO_163000 HO_163001 HO_163002 BK160 BK162 BK164 HB GG61 HQ68 hf61_0 hf61_1 hf61_2 hf61_3 hx176_0 hx176_1 hx176_2 hx176_3 hx61_0 hx61_1 hx61_2 hx61_3 hHeld ⊢
      refine zP 0 69 b11A21 HT_ ?_
      refine zP 2 71 b11A22 HT_ ?_
      refine zP 6 75 b11A23 HT_ ?_
      refine zQ 1 70 b11A24 HT_ HW_ hHeld ?_
      refine zP 3 72 b11A25 HT_ ?_
      refine zP 4 73 b11A26 HT_ ?_
      refine zQ 5 74 b11A27 HT_ HW_ hHeld ?_
      refine zQ 7 76 b11A28 HT_ HW_ hHeld ?_
      refine zP 8 77 b11A29 HT_ ?_
      refine zP 9 78 b11A30 HT_ ?_
      refine zP 10 79 b11A31 HT_ ?_
      refine last_ (i := 11) (N := none) b11A32 rfl rfl (one_of HT_.out zG75) zG76 (fun K hK => ?_)
      refine skip_ (w1 := ?_) (by rfl) rfl ?_ ?_
      rotate_left
      ·go_simp
       rfl
      refine hK.out _ _ ?_
      clear hK K
      refine done_ (done_of HT_.out zG75) ?_
      try go_wp2
      have n0_ : Aside0 (Kd.R k39 39 (w66.setCell ⟨go61, (x7_39 : Int).toNat * 4 + 2, none⟩ (.int .i64 (wrap64 (((rd_T39 x163000_39 x7_39).f2) + ((rd_T35 l0 x5_1).f5))))) w.heap.size (fun _ => True) (.slice (some ⟨go61, 0, none⟩) x163000_39.length co67) y177) := ⟨by (with_reducible repeat (first | apply zj | apply zk | apply zl)); exact HQ68.out⟩
      have n1_ : Aside0 (Kd.R Kd.string 9 (w66.setCell ⟨go61, (x7_39 : Int).toNat * 4 + 2, none⟩ (.int .i64 (wrap64 (((rd_T39 x163000_39 x7_39).f2) + ((rd_T35 l0 x5_1).f5))))) w.heap.size (fun _ => True) u163001 x163001_1) := ⟨by (with_reducible repeat (first | apply zj | apply zk | apply zl)); exact zp (zn (p := ⟨go61, (x7_39 : Int).toNat * 4 + 2, none⟩) (zs HO_163001.out GG61.out zG76) (fun _ hk => hk.2) (.int .i64 (wrap64 (((rd_T39 x163000_39 x7_39).f2) + ((rd_T35 l0 x5_1).f5))))) (fun _ hk => trivial)⟩
      have n2_ : Aside0 (Kd.R (Kd.int .i64) 3 (w66.setCell ⟨go61, (x7_39 : Int).toNat * 4 + 2, none⟩ (.int .i64 (wrap64 (((rd_T39 x163000_39 x7_39).f2) + ((rd_T35 l0 x5_1).f5))))) w.heap.size (fun _ => True) u163002 x163002_1) := ⟨by (with_reducible repeat (first | apply zj | apply zk | apply zl)); exact zp (zn (p := ⟨go61, (x7_39 : Int).toNat * 4 + 2, none⟩) (zs HO_163002.out GG61.out zG76) (fun _ hk => hk.2) (.int .i64 (wrap64 (((rd_T39 x163000_39 x7_39).f2) + ((rd_T35 l0 x5_1).f5))))) (fun _ hk => trivial)⟩
      have n3_ : Aside0 ((w66.setCell ⟨go61, (x7_39 : Int).toNat * 4 + 2, none⟩ (.int .i64 (wrap64 (((rd_T39 x163000_39 x7_39).f2) + ((rd_T35 l0 x5_1).f5))))).heap[gb160]? = some (.cells #[.slice none 0 0, .slice none 0 0, .slice none 0 0] 31 (0, 0))) := ⟨zH18⟩
      have n4_ : Aside0 ((w66.setCell ⟨go61, (x7_39 : Int).toNat * 4 + 2, none⟩ (.int .i64 (wrap64 (((rd_T39 x163000_39 x7_39).f2) + ((rd_T35 l0 x5_1).f5))))).heap[gb162]? = some (.cells #[.slice (some ⟨go61, 0, none⟩) x163000_39.length co67, u163001, u163002] 31 (0, 0))) := ⟨zH19⟩
      have n5_ : Aside0 ((w66.setCell ⟨go61, (x7_39 : Int).toNat * 4 + 2, none⟩ (.int .i64 (wrap64 (((rd_T39 x163000_39 x7_39).f2) + ((rd_T35 l0 x5_1).f5))))).heap[gb164]? = some (.cells #[.int .i64 ((rd_T35 l0 x5_1).f0), .int .i64 ((rd_T35 l0 x5_1).f1), .int .i64 ((rd_T35 l0 x5_1).f2), .int .i64 ((rd_T35 l0 x5_1).f3), .string ((rd_T35 l0 x5_1).f4), .int .i64 ((rd_T35 l0 x5_1).f5)] 35 (0, 0))) := ⟨zH17⟩
      have n6_ : Aside0 (Below w.heap.size w (w66.setCell ⟨go61, (x7_39 : Int).toNat * 4 + 2, none⟩ (.int .i64 (wrap64 (((rd_T39 x163000_39 x7_39).f2) + ((rd_T35 l0 x5_1).f5)))))) := ⟨zH33⟩
      (try clear HO_163000)
      (try clear HO_163001)
      (try clear HO_163002)
      (try clear BK160)
      (try clear BK162)
      (try clear BK164)
      (try clear HB)
      generalize (w66.setCell ⟨go61, (x7_39 : Int).toNat * 4 + 2, none⟩ (.int .i64 (wrap64 (((rd_T39 x163000_39 x7_39).f2) + ((rd_T35 l0 x5_1).f5))))) = w69 at n0_ n1_ n2_ n3_ n4_ n5_ n6_ ⊢
      have HO_163000 := n0_
      have HO_163001 := n1_
      have HO_163002 := n2_
      have BK160 := n3_
      have BK162 := n4_
      have BK164 := n5_
      have HB := n6_
      clear n0_ n1_ n2_ n3_ n4_ n5_ n6_
      obtain ⟨n0_, n1_, n2_, n3_, n4_, n5_, n6_⟩ := zD7 (zl HO_163000.out) (zl HO_163001.out) (zl HO_163002.out) (zm BK160.out) (zm BK162.out) (zm BK164.out) (ze HB.out)
      clear HO_163000 HO_163001 HO_163002 BK160 BK162 BK164 HB
      have HO_163000 := n0_
      have HO_163001 := n1_
      have HO_163002 := n2_
      have BK160 := n3_
      have BK162 := n4_
      have BK164 := n5_
      have HB := n6_
      clear n0_ n1_ n2_ n3_ n4_ n5_ n6_
      have p178 : 0 ≤ (x7_39 : Int) := zO
      have q178 : x7_39 < (y177.length : Int) := (by have h_ : (x7_39 : Int) < ((x163000_39.length : Int) : Int) := zO; first | (have e_ := (Kd.R_reads' HO_163000.out).1; omega) | simpa only [Ny177.out, List.length_set] using h_)
      have ql178 : ((x7_39 : Int) < ((x163000_39.length : Int) : Int)) = True := eq_true zO
      obtain ⟨ad178, e178, hx178_0, hx178_1, hx178_2, hx178_3⟩ := at_T39 (Kd.R_reads' HO_163000.out).2.2 x7_39 p178 q178
      obtain rfl : (⟨go61, 0, none⟩ : Addr) = ad178 := (by injection e178)
      (first | simp only [add_plain] at hx178_0 | simp only [add_at] at hx178_0 | simp only [Addr.add, Nat.zero_add] at hx178_0 | skip)
      (first | simp only [add_plain] at hx178_1 | simp only [add_at] at hx178_1 | simp only [Addr.add, Nat.zero_add] at hx178_1 | skip)
      (first | simp only [add_plain] at hx178_2 | simp only [add_at] at hx178_2 | simp only [Addr.add, Nat.zero_add] at hx178_2 | skip)
      (first | simp only [add_plain] at hx178_3 | simp only [add_at] at hx178_3 | simp only [Addr.add, Nat.zero_add] at hx178_3 | skip)
      replace p178 := eq_true p178
      replace q178 := eq_true q178
      have p179 : 0 ≤ (x7_39 : Int) := zO
      have q179 : x7_39 < (y177.length : Int) := (by have h_ : (x7_39 : Int) < ((x163000_39.length : Int) : Int) := zO; first | (have e_ := (Kd.R_reads' HO_163000.out).1; omega) | simpa only [Ny177.out, List.length_set] using h_)
      have ql179 : ((x7_39 : Int) < ((x163000_39.length : Int) : Int)) = True := eq_true zO
      obtain ⟨ad179, e179, hx179_0, hx179_1, hx179_2, hx179_3⟩ := at_T39 (Kd.R_reads' HO_163000.out).2.2 x7_39 p179 q179
      obtain rfl : (⟨go61, 0, none⟩ : Addr) = ad179 := (by injection e179)
      (first | simp only [add_plain] at hx179_0 | simp only [add_at] at hx179_0 | simp only [Addr.add, Nat.zero_add] at hx179_0 | skip)
      (first | simp only [add_plain] at hx179_1 | simp only [add_at] at hx179_1 | simp only [Addr.add, Nat.zero_add] at hx179_1 | skip)
      (first | simp only [add_plain] at hx179_2 | simp only [add_at] at hx179_2 | simp only [Addr.add, Nat.zero_add] at hx179_2 | skip)
      (first | simp only [add_plain] at hx179_3 | simp only [add_at] at hx179_3 | simp only [Addr.add, Nat.zero_add] at hx179_3 | skip)
      replace p179 := eq_true p179
      replace q179 := eq_true q179
      have p62 : 0 ≤ (x7_39 : Int) := zO
      have q62 : (x7_39 : Int) < ((x163000_39.length : Int) : Int) := zO
      obtain ⟨ce62, hcl62, hM62, hcc62, hfr62⟩ := zaf HO_163000.out z39 (x7_39 : Int) p62 q62
      obtain rfl := k39_openM hM62
      have hx62_0 : World.cell? _ ⟨go61, (x7_39 : Int).toNat * 4, none⟩ = some (.string ((rd_T39 y177 x7_39).f0)) := hcc62 0 _ rfl
      have hx62_1 : World.cell? _ ⟨go61, (x7_39 : Int).toNat * 4 + 1, none⟩ = some (.int .i64 ((rd_T39 y177 x7_39).f1)) := hcc62 1 _ rfl
      have hx62_2 : World.cell? _ ⟨go61, (x7_39 : Int).toNat * 4 + 2, none⟩ = some (.int .i64 ((rd_T39 y177 x7_39).f2)) := hcc62 2 _ rfl
      have hx62_3 : World.cell? _ ⟨go61, (x7_39 : Int).toNat * 4 + 3, none⟩ = some (.int .i64 ((rd_T39 y177 x7_39).f3)) := hcc62 3 _ rfl
      have hf62_0 : World.frozen? _ ⟨go61, (x7_39 : Int).toNat * 4, none⟩ = false := hfr62 0
      have hf62_1 : World.frozen? _ ⟨go61, (x7_39 : Int).toNat * 4 + 1, none⟩ = false := hfr62 1
      have hf62_2 : World.frozen? _ ⟨go61, (x7_39 : Int).toNat * 4 + 2, none⟩ = false := hfr62 2
      have hf62_3 : World.frozen? _ ⟨go61, (x7_39 : Int).toNat * 4 + 3, none⟩ = false := hfr62 3
      clear hcl62 hcc62 hfr62 hM62
      replace p62 := eq_true p62
      replace q62 := eq_true q62
      obtain ⟨ce71, hcl71, hM71, hcc71, hfr71⟩ := zaf HO_163000.out z39 (x7_39 : Int) zO (by have h_ : (x7_39 : Int) < ((x163000_39.length : Int) : Int) := zO; first | exact h_ | (have e_ := (Kd.R_reads' HO_163000.out).1; omega) | simpa using h_)
      obtain rfl := k39_openM hM71
      have HP71 := (zaj HO_163000.out (x7_39 : Int) zO (by have h_ : (x7_39 : Int) < ((x163000_39.length : Int) : Int) := zO; first | exact h_ | (have e_ := (Kd.R_reads' HO_163000.out).1; omega) | simpa using h_) (seg := [.int .i64 (wrap64 (((rd_T39 y177 x7_39).f2) - ((rd_T39 y177 x7_39).f3)))]) (j := 1) hcl71 hcc71 (show 2 ≤ 4 from by decide) (x' := (⟨(rd_T39 y177 x7_39).f0, wrap64 (((rd_T39 y177 x7_39).f2) - ((rd_T39 y177 x7_39).f3)), (rd_T39 y177 x7_39).f2, (rd_T39 y177 x7_39).f3⟩ : S39)) (k39_mkM _ _ _ (⟨(rd_T39 y177 x7_39).f0, wrap64 (((rd_T39 y177 x7_39).f2) - ((rd_T39 y177 x7_39).f3)), (rd_T39 y177 x7_39).f2, (rd_T39 y177 x7_39).f3⟩ : S39) ) (fun _ hk => hk)).1
      rw [← Ny180.out] at HP71
      have HQ71 := zb HP71
      clear hcl71 hcc71 hfr71 hM71 HP71
      refine start_ (n := 19) (S := fun w' => w'.cell? ⟨gb162, 0, none⟩ = some (.slice (some ⟨go61, 0, none⟩) x163000_39.length co67) ∧ w'.cell? ⟨gb162, 1, none⟩ = some (u163001) ∧ w'.cell? ⟨gb162, 2, none⟩ = some (u163002) ∧ w'.cell? ⟨go61, (x7_39).toNat * 4, none⟩ = some (.string ((rd_T39 y177 x7_39).f0)) ∧ w'.cell? ⟨go61, (x7_39).toNat * 4 + 1, none⟩ = some (.int .i64 ((rd_T39 y177 x7_39).f1)) ∧ w'.cell? ⟨go61, (x7_39).toNat * 4 + 2, none⟩ = some (.int .i64 ((rd_T39 y177 x7_39).f2)) ∧ w'.cell? ⟨go61, (x7_39).toNat * 4 + 3, none⟩ = some (.int .i64 ((rd_T39 y177 x7_39).f3)) ∧ w'.cell? ⟨go61, (x7_39).toNat * 4, none⟩ = some (.string ((rd_T39 y177 x7_39).f0)) ∧ w'.cell? ⟨go61, (x7_39).toNat * 4 + 1, none⟩ = some (.int .i64 ((rd_T39 y177 x7_39).f1)) ∧ w'.cell? ⟨go61, (x7_39).toNat * 4 + 2, none⟩ = some (.int .i64 ((rd_T39 y177 x7_39).f2)) ∧ w'.cell? ⟨go61, (x7_39).toNat * 4 + 3, none⟩ = some (.int .i64 ((rd_T39 y177 x7_39).f3))) (ds := [18]) b11A0 zG75 rfl rfl ⟨(q11a BK162.out 0).trans rfl, (q11a BK162.out 1).trans rfl, (q11a BK162.out 2).trans rfl, hx178_0, hx178_1, hx178_2, hx178_3, hx179_0, hx179_1, hx179_2, hx179_3⟩ (fun hHeld => ?_); refine with_tabW spec_LedgerOf.tab23 spec_LedgerOf.bits23 (fun HT_ HW_ => ?_)
      generalize w69.drew = w70 at HO_163000 HO_163001 HO_163002 BK160 BK162 BK164 HB HQ68 HQ71 hf62_0 hf62_1 hf62_2 hf62_3 hx178_0 hx178_1 hx178_2 hx178_3 hx179_0 hx179_1 hx179_2 hx179_3 hx62_0 hx62_1 hx62_2 hx62_3 hHeld ⊢
      refine zP 0 106 b11A1 HT_ ?_
      refine zP 2 108 b11A2 HT_ ?_
      refine zP 3 109 b11A3 HT_ ?_
      refine zP 5 111 b11A4 HT_ ?_
      refine zP 9 115 b11A5 HT_ ?_
      refine zP 11 117 b11A6 HT_ ?_
      refine zQ 1 107 b11A7 HT_ HW_ hHeld ?_
      refine zQ 4 110 b11A8 HT_ HW_ hHeld ?_
      refine zP 6 112 b11A9 HT_ ?_
      refine zP 7 113 b11A10 HT_ ?_
      refine zQ 8 114 b11A11 HT_ HW_ hHeld ?_
      refine zQ 10 116 b11A12 HT_ HW_ hHeld ?_
      refine zP 12 118 b11A13 HT_ ?_
      refine zP 13 119 b11A14 HT_ ?_
      refine zQ 14 120 b11A15 HT_ HW_ hHeld ?_
      refine zP 15 121 b11A16 HT_ ?_
      refine zP 16 122 b11A17 HT_ ?_
      refine zP 17 123 b11A18 HT_ ?_
      refine last_ (i := 18) (N := none) b11A19 rfl rfl (one_of HT_.out zG75) zG76 (fun K hK => ?_)
      refine skip_ (w1 := ?_) (by rfl) rfl ?_ ?_
      rotate_left
      ·go_simp
       rfl
      refine hK.out _ _ ?_
      clear hK K
      refine done_ (done_of HT_.out zG75) ?_
      try go_wp2
      go_roundg kj39
      case measure => have := HK1.out; have := HJ39.out; omega
      case rel =>
        obtain ⟨_, ho_⟩ := Kd.R_own HO_163000.out
        obtain ⟨cl_, hg_⟩ := own_typed ho_ go61 rfl
        have GG61 := Aside0.mk hg_
        exact ⟨(wrap64 (x5_1 + 1)), (y180), (x163001_1), (x163002_1), (.slice (some ⟨go61, 0, none⟩) x163000_39.length co67), (u163001), (u163002), zG74, H', ⟨by have := HK1.out; have := HJ39.out; omega⟩, ⟨by (with_reducible repeat (first | apply zj | apply zk | apply zl)); exact HQ71.out⟩, ⟨by (with_reducible repeat (first | apply zj | apply zk | apply zl)); exact zp (zn (p := ⟨go61, (x7_39 : Int).toNat * 4 + 1, none⟩) (zs HO_163001.out GG61.out zG76) (fun _ hk => hk.2) (.int .i64 (wrap64 (((rd_T39 y177 x7_39).f2) - ((rd_T39 y177 x7_39).f3))))) (fun _ hk => trivial)⟩, ⟨by (with_reducible repeat (first | apply zj | apply zk | apply zl)); exact zp (zn (p := ⟨go61, (x7_39 : Int).toNat * 4 + 1, none⟩) (zs HO_163002.out GG61.out zG76) (fun _ hk => hk.2) (.int .i64 (wrap64 (((rd_T39 y177 x7_39).f2) - ((rd_T39 y177 x7_39).f3))))) (fun _ hk => trivial)⟩, ⟨zH18⟩, ⟨zH19⟩, ⟨zH33⟩⟩
     rw [if_neg c58] at H
     have c58b0 : (((rd_T35 l0 x5_1).f3) == 1) = false := beq_eq_false_iff_ne.mpr c58
     have c58b1 : (((rd_T35 l0 x5_1).f3) != 1) = true := bne_iff_ne.mpr c58
     by_cases c72 : 0 ≤ x7_39
     rotate_left
     ·rw [if_neg c72] at H
      exact absurd H (by simp)
     rw [if_pos c72] at H
     have c72b0 := decide_eq_true c72
     clear c72
     by_cases c73 : x7_39 < (x163000_39.length : Int)
     rotate_left
     ·rw [if_neg c73] at H
      exact absurd H (by simp)
     rw [if_pos c73] at H
     have c73b0 := decide_eq_true c73
     clear c73
     by_cases c74 : ((rd_T35 l0 x5_1).f5) > ((rd_T39 x163000_39 x7_39).f1)
     ·rw [if_pos c74] at H
      have c74b0 : decide (((rd_T39 x163000_39 x7_39).f1) < ((rd_T35 l0 x5_1).f5)) = true := decide_eq_true c74
      clear c74
      by_cases c75 : x163002_1.length < 17592186044416
      rotate_left
      ·rw [if_neg c75] at H
       exact absurd H (by simp)
      rw [if_pos c75] at H
      have LMc75 := zb c75
      clear c75
      obtain ⟨y182, hy182⟩ : ∃ y_ : List Int, y_ = (x163002_1 ++ [x5_1]) := ⟨_, rfl⟩
      replace H : (spec_LedgerOf.l0 kj39 l0 (wrap64 (x5_1 + 1)) (x163000_39.set (x7_39 : Int).toNat (⟨(rd_T39 x163000_39 x7_39).f0, wrap64 (((rd_T39 x163000_39 x7_39).f2) - ((rd_T39 x163000_39 x7_39).f3)), (rd_T39 x163000_39 x7_39).f2, (rd_T39 x163000_39 x7_39).f3⟩ : S39)) x163001_1 y182) = some (r1, r2, r3, r4) := by first | (rw [hy182]; with_reducible exact H) | (have H2_ := (Option.bind_some _ _).symm.trans H; rw [hy182]; with_reducible exact H2_) | (have H2_ := (Option.bind_some _ _).symm.trans H; with_reducible exact H2_) | with_reducible exact H | (rw [hy182]; exact H) | exact H
      have Ny182 := zb hy182
      clear hy182
      obtain ⟨y187, hy187⟩ : ∃ y_ : List (S39), y_ = (x163000_39.set (x7_39 : Int).toNat (⟨(rd_T39 x163000_39 x7_39).f0, wrap64 (((rd_T39 x163000_39 x7_39).f2) - ((rd_T39 x163000_39 x7_39).f3)), (rd_T39 x163000_39 x7_39).f2, (rd_T39 x163000_39 x7_39).f3⟩ : S39)) := ⟨_, rfl⟩
      replace H : (spec_LedgerOf.l0 kj39 l0 (wrap64 (x5_1 + 1)) y187 x163001_1 y182) = some (r1, r2, r3, r4) := by first | (rw [hy187]; with_reducible exact H) | (have H2_ := (Option.bind_some _ _).symm.trans H; rw [hy187]; with_reducible exact H2_) | (have H2_ := (Option.bind_some _ _).symm.trans H; with_reducible exact H2_) | with_reducible exact H | (rw [hy187]; exact H) | exact H
      have Ny187 := zb hy187
      clear hy187
      have H' := zb H
      clear H
      have hnb77 := NB164_160.out
      have hnc77 := NB160_164.out
      have hnb78 := NB164_162.out
      have hnc78 := NB162_164.out
      have hcz79_0 : wc.cell? ⟨gb164, 0, none⟩ = some (.int .i64 ((rd_T35 l0 x5_1).f0)) := (q11a BK164.out 0).trans rfl
      have hcz79_1 : wc.cell? ⟨gb164, 1, none⟩ = some (.int .i64 ((rd_T35 l0 x5_1).f1)) := (q11a BK164.out 1).trans rfl
      have hcz79_2 : wc.cell? ⟨gb164, 2, none⟩ = some (.int .i64 ((rd_T35 l0 x5_1).f2)) := (q11a BK164.out 2).trans rfl
      have hcz79_3 : wc.cell? ⟨gb164, 3, none⟩ = some (.int .i64 ((rd_T35 l0 x5_1).f3)) := (q11a BK164.out 3).trans rfl
      have hcz79_4 : wc.cell? ⟨gb164, 4, none⟩ = some (.string ((rd_T35 l0 x5_1).f4)) := (q11a BK164.out 4).trans rfl
      have hcz79_5 : wc.cell? ⟨gb164, 5, none⟩ = some (.int .i64 ((rd_T35 l0 x5_1).f5)) := (q11a BK164.out 5).trans rfl
      have hfz79_0 := zd BK164.out 0
      have hfz79_1 := zd BK164.out 1
      have hfz79_2 := zd BK164.out 2
      have hfz79_3 := zd BK164.out 3
      have hfz79_4 := zd BK164.out 4
      have hfz79_5 := zd BK164.out 5
      try go_wp2
      obtain ⟨n0_, n1_, n2_, n3_, n4_, n5_, n6_⟩ := zD7 (zl HO_163000.out) (zl HO_163001.out) (zl HO_163002.out) (zm BK160.out) (zm BK162.out) (zm BK164.out) (ze HB.out)
      clear HO_163000 HO_163001 HO_163002 BK160 BK162 BK164 HB
      have HO_163000 := n0_
      have HO_163001 := n1_
      have HO_163002 := n2_
      have BK160 := n3_
      have BK162 := n4_
      have BK164 := n5_
      have HB := n6_
      clear n0_ n1_ n2_ n3_ n4_ n5_ n6_
      obtain ⟨Ao81, co81, eo81⟩ := zy HO_163000.out
      (first | subst eo81 | (injection eo81 with f1_ f2_ f3_; have f4_ := f1_.symm; have f5_ := f3_.symm; clear f1_ f2_ f3_; subst f4_; subst f5_))
      have p181 : 0 ≤ (x7_39 : Int) := zO
      have q181 : x7_39 < (x163000_39.length : Int) := zO
      obtain ⟨ad181, e181, hx181_0, hx181_1, hx181_2, hx181_3⟩ := at_T39 (Kd.R_reads' HO_163000.out).2.2 x7_39 p181 q181
      cases e181
      replace p181 := eq_true p181
      replace q181 := eq_true q181
      refine start_ (n := 9) (S := fun w' => w'.cell? ⟨gb164, 0, none⟩ = some (.int .i64 ((rd_T35 l0 x5_1).f0)) ∧ w'.cell? ⟨gb164, 1, none⟩ = some (.int .i64 ((rd_T35 l0 x5_1).f1)) ∧ w'.cell? ⟨gb164, 2, none⟩ = some (.int .i64 ((rd_T35 l0 x5_1).f2)) ∧ w'.cell? ⟨gb164, 3, none⟩ = some (.int .i64 ((rd_T35 l0 x5_1).f3)) ∧ w'.cell? ⟨gb164, 4, none⟩ = some (.string ((rd_T35 l0 x5_1).f4)) ∧ w'.cell? ⟨gb164, 5, none⟩ = some (.int .i64 ((rd_T35 l0 x5_1).f5)) ∧ w'.cell? ⟨gb162, 0, none⟩ = some (.slice (some ad181) x163000_39.length co81) ∧ w'.cell? ⟨gb162, 1, none⟩ = some (u163001) ∧ w'.cell? ⟨gb162, 2, none⟩ = some (u163002) ∧ w'.cell? (ad181.add ((x7_39).toNat * 4)) = some (.string ((rd_T39 x163000_39 x7_39).f0)) ∧ w'.cell? ⟨(ad181.add ((x7_39).toNat * 4)).block, (ad181.add ((x7_39).toNat * 4)).off + 1, none⟩ = some (.int .i64 ((rd_T39 x163000_39 x7_39).f1)) ∧ w'.cell? ⟨(ad181.add ((x7_39).toNat * 4)).block, (ad181.add ((x7_39).toNat * 4)).off + 2, none⟩ = some (.int .i64 ((rd_T39 x163000_39 x7_39).f2)) ∧ w'.cell? ⟨(ad181.add ((x7_39).toNat * 4)).block, (ad181.add ((x7_39).toNat * 4)).off + 3, none⟩ = some (.int .i64 ((rd_T39 x163000_39 x7_39).f3))) (ds := []) b11A33 zG75 rfl rfl ⟨(q11a BK164.out 0).trans rfl, (q11a BK164.out 1).trans rfl, (q11a BK164.out 2).trans rfl, (q11a BK164.out 3).trans rfl, (q11a BK164.out 4).trans rfl, (q11a BK164.out 5).trans rfl, (q11a BK162.out 0).trans rfl, (q11a BK162.out 1).trans rfl, (q11a BK162.out 2).trans rfl, hx181_0, hx181_1, hx181_2, hx181_3⟩ (fun hHeld => ?_); refine with_tabW spec_LedgerOf.tab20 spec_LedgerOf.bits20 (fun HT_ HW_ => ?_)
      generalize wc.drew = w80 at HO_163000 HO_163001 HO_163002 BK160 BK162 BK164 HB hx181_0 hx181_1 hx181_2 hx181_3 hHeld ⊢
      refine zP 0 80 b11A34 HT_ ?_
      refine zP 2 82 b11A35 HT_ ?_
      refine zP 4 84 b11A36 HT_ ?_
      refine zQ 1 81 b11A37 HT_ HW_ hHeld ?_
      refine zQ 3 83 b11A38 HT_ HW_ hHeld ?_
      refine zP 5 85 b11A39 HT_ ?_
      refine zP 6 86 b11A40 HT_ ?_
      refine zQ 7 87 b11A41 HT_ HW_ hHeld ?_
      refine zP 8 88 b11A42 HT_ ?_
      refine done_ (done_of HT_.out zG75) ?_
      have hnb82 := NB162_160.out
      have hnc82 := NB160_162.out
      have hcz83_0 : w80.cell? ⟨gb162, 0, none⟩ = some (.slice (some ad181) x163000_39.length co81) := (q11a BK162.out 0).trans rfl
      have hcz83_1 : w80.cell? ⟨gb162, 1, none⟩ = some (u163001) := (q11a BK162.out 1).trans rfl
      have hcz83_2 : w80.cell? ⟨gb162, 2, none⟩ = some (u163002) := (q11a BK162.out 2).trans rfl
      have hfz83_0 := zd BK162.out 0
      have hfz83_1 := zd BK162.out 1
      have hfz83_2 := zd BK162.out 2
      try go_wp2_with (first | ((with_reducible refine gate_builtin (b := .append) (xs := #[.tmp 90, .tmp 92]) rfl ?_); at_builtin; refine zbb (Kd.int .i64) (w0 := w) w.heap.size rfl (.tmp 90) (.tmp 92) 29 3 (.int .i64 0) 8 rfl Try.underlying29 info3 rfl zG76 (by omega) u163002 x163002_1 x5_1 [.int .i64 x5_1] (fun _ => True) (fun _ => False) rfl rfl ?aP (fun _ hk => hk.elim) ?aF ?aO ?aB ?aS ?aL ?_; (case aP => exact rfl); (case aB => exact zH36); (case aF => exact (fun _ _ => trivial)); (case aO => exact zK167); (case aS => exact zH35); (case aL => have := LMc75.out; omega); intro v183 w84 ho hb hg hat; rw [← Ny182.out] at ho; have n_ := zA_ (zb (zav zK165 (zac zK167) zG76 hg)) (zA_ (zb (zav zK166 (zac zK167) zG76 hg)) (zA_ (zb (zar (g := gb160) (o := .cells #[.slice none 0 0, .slice none 0 0, .slice none 0 0] 31 (0, 0)) zG64 hg (zae HO_163002.out BK160.out zG76))) (zA_ (zb (zar (g := gb162) (o := .cells #[.slice (some ad181) x163000_39.length co81, u163001, u163002] 31 (0, 0)) zK153 hg (zae HO_163002.out BK162.out zG76))) (zA_ (zb (zar (g := gb164) (o := .cells #[.int .i64 ((rd_T35 l0 x5_1).f0), .int .i64 ((rd_T35 l0 x5_1).f1), .int .i64 ((rd_T35 l0 x5_1).f2), .int .i64 ((rd_T35 l0 x5_1).f3), .string ((rd_T35 l0 x5_1).f4), .int .i64 ((rd_T35 l0 x5_1).f5)] 35 (0, 0)) (by (with_reducible repeat (first | refine zh ?_ _ | refine zm ?_ | refine zi ?_ _)); exact BK164.out) hg (zae HO_163002.out BK164.out zG76))) (zA_ (zb (hb)) (zb (ho))))))); clear HO_163000 HO_163001 BK160 BK162 BK164 HB HO_163002; obtain ⟨HO_163000, HO_163001, BK160, BK162, BK164, HB, HO184⟩ := n_; clear ho hb hg hat; obtain ⟨Ao85, co85, eo85⟩ := zy HO184.out; subst eo85; have hcz86_0 : w84.cell? ⟨gb162, 0, none⟩ = some (.slice (some ad181) x163000_39.length co81) := (q11a BK162.out 0).trans rfl; have hcz86_1 : w84.cell? ⟨gb162, 1, none⟩ = some (u163001) := (q11a BK162.out 1).trans rfl; have hcz86_2 : w84.cell? ⟨gb162, 2, none⟩ = some (u163002) := (q11a BK162.out 2).trans rfl; have hfz86_0 := zd BK162.out 0; have hfz86_1 := zd BK162.out 1; have hfz86_2 := zd BK162.out 2))
      have n0_ : Aside0 (Kd.R k39 39 (w84.setCell ⟨gb162, 2, none⟩ (.slice Ao85 y182.length co85)) w.heap.size (fun _ => True) (.slice (some ad181) x163000_39.length co81) x163000_39) := ⟨by (with_reducible repeat (first | apply zj | apply zk | apply zl)); exact zp (zn (p := ⟨gb162, 2, none⟩) (zs HO_163000.out BK162.out zG76) (fun _ hk => hk.2) (.slice Ao85 y182.length co85)) (fun _ hk => trivial)⟩
      have n1_ : Aside0 (Kd.R Kd.string 9 (w84.setCell ⟨gb162, 2, none⟩ (.slice Ao85 y182.length co85)) w.heap.size (fun _ => True) u163001 x163001_1) := ⟨by (with_reducible repeat (first | apply zj | apply zk | apply zl)); exact zp (zn (p := ⟨gb162, 2, none⟩) (zs HO_163001.out BK162.out zG76) (fun _ hk => hk.2) (.slice Ao85 y182.length co85)) (fun _ hk => trivial)⟩
      have n2_ : Aside0 (Kd.R (Kd.int .i64) 3 (w84.setCell ⟨gb162, 2, none⟩ (.slice Ao85 y182.length co85)) w.heap.size (fun _ => True) (.slice Ao85 y182.length co85) y182) := ⟨by (with_reducible repeat (first | apply zj | apply zk | apply zl)); exact zp (zn (p := ⟨gb162, 2, none⟩) (zs HO184.out BK162.out zG76) (fun _ hk => hk.2) (.slice Ao85 y182.length co85)) (fun _ hk => trivial)⟩
      have n3_ : Aside0 ((w84.setCell ⟨gb162, 2, none⟩ (.slice Ao85 y182.length co85)).heap[gb160]? = some (.cells #[.slice none 0 0, .slice none 0 0, .slice none 0 0] 31 (0, 0))) := ⟨zH31⟩
      have n4_ : Aside0 ((w84.setCell ⟨gb162, 2, none⟩ (.slice Ao85 y182.length co85)).heap[gb162]? = some (.cells #[.slice (some ad181) x163000_39.length co81, u163001, .slice Ao85 y182.length co85] 31 (0, 0))) := ⟨by (with_reducible repeat (first | refine zh ?_ _ | refine zm ?_ | refine zi ?_ _)); refine zz (cs := #[.slice (some ad181) x163000_39.length co81, u163001, u163002]) ?_ 2 _ rfl; (with_reducible repeat (first | refine zh ?_ _ | refine zm ?_ | refine zi ?_ _)); exact BK162.out⟩
      have n5_ : Aside0 ((w84.setCell ⟨gb162, 2, none⟩ (.slice Ao85 y182.length co85)).heap[gb164]? = some (.cells #[.int .i64 ((rd_T35 l0 x5_1).f0), .int .i64 ((rd_T35 l0 x5_1).f1), .int .i64 ((rd_T35 l0 x5_1).f2), .int .i64 ((rd_T35 l0 x5_1).f3), .string ((rd_T35 l0 x5_1).f4), .int .i64 ((rd_T35 l0 x5_1).f5)] 35 (0, 0))) := ⟨zH30⟩
      have n6_ : Aside0 (Below w.heap.size w (w84.setCell ⟨gb162, 2, none⟩ (.slice Ao85 y182.length co85))) := ⟨zH37⟩
      (try clear HO_163000)
      (try clear HO_163001)
      (try clear HO184)
      (try clear BK160)
      (try clear BK162)
      (try clear BK164)
      (try clear HB)
      generalize (w84.setCell ⟨gb162, 2, none⟩ (.slice Ao85 y182.length co85)) = w87 at n0_ n1_ n2_ n3_ n4_ n5_ n6_ ⊢
      have HO_163000 := n0_
      have HO_163001 := n1_
      have HO184 := n2_
      have BK160 := n3_
      have BK162 := n4_
      have BK164 := n5_
      have HB := n6_
      clear n0_ n1_ n2_ n3_ n4_ n5_ n6_
      obtain ⟨n0_, n1_, n2_, n3_, n4_, n5_, n6_⟩ := zD7 (zl HO_163000.out) (zl HO_163001.out) (zl HO184.out) (zm BK160.out) (zm BK162.out) (zm BK164.out) (ze HB.out)
      clear HO_163000 HO_163001 HO184 BK160 BK162 BK164 HB
      have HO_163000 := n0_
      have HO_163001 := n1_
      have HO184 := n2_
      have BK160 := n3_
      have BK162 := n4_
      have BK164 := n5_
      have HB := n6_
      clear n0_ n1_ n2_ n3_ n4_ n5_ n6_
      have p185 : 0 ≤ (x7_39 : Int) := zO
      have q185 : x7_39 < (x163000_39.length : Int) := zO
      obtain ⟨ad185, e185, hx185_0, hx185_1, hx185_2, hx185_3⟩ := at_T39 (Kd.R_reads' HO_163000.out).2.2 x7_39 p185 q185
      obtain rfl : ad181 = ad185 := (by injection e185)
      replace p185 := eq_true p185
      replace q185 := eq_true q185
      have p186 : 0 ≤ (x7_39 : Int) := zO
      have q186 : x7_39 < (x163000_39.length : Int) := zO
      obtain ⟨ad186, e186, hx186_0, hx186_1, hx186_2, hx186_3⟩ := at_T39 (Kd.R_reads' HO_163000.out).2.2 x7_39 p186 q186
      obtain rfl : ad181 = ad186 := (by injection e186)
      replace p186 := eq_true p186
      replace q186 := eq_true q186
      have p76 : 0 ≤ (x7_39 : Int) := zO
      have q76 : (x7_39 : Int) < ((x163000_39.length : Int) : Int) := zO
      obtain ⟨go76, co76, eo76, gb76, gl76, cl76, HG76⟩ := zas HO_163000.out (by omega)
      (first | cases eo76 | (injection eo76 with ea_ en_ ec_; (first | subst ea_ | (injection ea_ with ea_; subst ea_)); subst ec_; clear en_))
      obtain ⟨GB76, GG76⟩ := zD2 gb76 HG76
      clear gb76 gl76 HG76
      (first | simp only [add_plain] at hx181_0 | skip)
      (first | simp only [add_plain] at hx181_1 | skip)
      (first | simp only [add_plain] at hx181_2 | skip)
      (first | simp only [add_plain] at hx181_3 | skip)
      (first | simp only [add_plain] at hx185_0 | skip)
      (first | simp only [add_plain] at hx185_1 | skip)
      (first | simp only [add_plain] at hx185_2 | skip)
      (first | simp only [add_plain] at hx185_3 | skip)
      (first | simp only [add_plain] at hx186_0 | skip)
      (first | simp only [add_plain] at hx186_1 | skip)
      (first | simp only [add_plain] at hx186_2 | skip)
      (first | simp only [add_plain] at hx186_3 | skip)
      obtain ⟨ce76, hcl76, hM76, hcc76, hfr76⟩ := zaf HO_163000.out z39 (x7_39 : Int) p76 q76
      obtain rfl := k39_openM hM76
      have hx76_0 : World.cell? _ ⟨go76, (x7_39 : Int).toNat * 4, none⟩ = some (.string ((rd_T39 x163000_39 x7_39).f0)) := hcc76 0 _ rfl
      have hx76_1 : World.cell? _ ⟨go76, (x7_39 : Int).toNat * 4 + 1, none⟩ = some (.int .i64 ((rd_T39 x163000_39 x7_39).f1)) := hcc76 1 _ rfl
      have hx76_2 : World.cell? _ ⟨go76, (x7_39 : Int).toNat * 4 + 2, none⟩ = some (.int .i64 ((rd_T39 x163000_39 x7_39).f2)) := hcc76 2 _ rfl
      have hx76_3 : World.cell? _ ⟨go76, (x7_39 : Int).toNat * 4 + 3, none⟩ = some (.int .i64 ((rd_T39 x163000_39 x7_39).f3)) := hcc76 3 _ rfl
      have hf76_0 : World.frozen? _ ⟨go76, (x7_39 : Int).toNat * 4, none⟩ = false := hfr76 0
      have hf76_1 : World.frozen? _ ⟨go76, (x7_39 : Int).toNat * 4 + 1, none⟩ = false := hfr76 1
      have hf76_2 : World.frozen? _ ⟨go76, (x7_39 : Int).toNat * 4 + 2, none⟩ = false := hfr76 2
      have hf76_3 : World.frozen? _ ⟨go76, (x7_39 : Int).toNat * 4 + 3, none⟩ = false := hfr76 3
      clear hcl76 hcc76 hfr76 hM76
      replace p76 := eq_true p76
      replace q76 := eq_true q76
      obtain ⟨ce89, hcl89, hM89, hcc89, hfr89⟩ := zaf HO_163000.out z39 (x7_39 : Int) zO (by have h_ : (x7_39 : Int) < ((x163000_39.length : Int) : Int) := zO; first | exact h_ | (have e_ := (Kd.R_reads' HO_163000.out).1; omega) | simpa using h_)
      obtain rfl := k39_openM hM89
      have HP89 := (zaj HO_163000.out (x7_39 : Int) zO (by have h_ : (x7_39 : Int) < ((x163000_39.length : Int) : Int) := zO; first | exact h_ | (have e_ := (Kd.R_reads' HO_163000.out).1; omega) | simpa using h_) (seg := [.int .i64 (wrap64 (((rd_T39 x163000_39 x7_39).f2) - ((rd_T39 x163000_39 x7_39).f3)))]) (j := 1) hcl89 hcc89 (show 2 ≤ 4 from by decide) (x' := (⟨(rd_T39 x163000_39 x7_39).f0, wrap64 (((rd_T39 x163000_39 x7_39).f2) - ((rd_T39 x163000_39 x7_39).f3)), (rd_T39 x163000_39 x7_39).f2, (rd_T39 x163000_39 x7_39).f3⟩ : S39)) (k39_mkM _ _ _ (⟨(rd_T39 x163000_39 x7_39).f0, wrap64 (((rd_T39 x163000_39 x7_39).f2) - ((rd_T39 x163000_39 x7_39).f3)), (rd_T39 x163000_39 x7_39).f2, (rd_T39 x163000_39 x7_39).f3⟩ : S39) ) (fun _ hk => hk)).1
      rw [← Ny187.out] at HP89
      have HQ89 := zb HP89
      clear hcl89 hcc89 hfr89 hM89 HP89
      refine start_ (n := 19) (S := fun w' => w'.cell? ⟨gb162, 0, none⟩ = some (.slice (some ⟨go76, 0, none⟩) x163000_39.length co81) ∧ w'.cell? ⟨gb162, 1, none⟩ = some (u163001) ∧ w'.cell? ⟨gb162, 2, none⟩ = some (.slice Ao85 y182.length co85) ∧ w'.cell? ⟨go76, ((x7_39).toNat * 4), none⟩ = some (.string ((rd_T39 x163000_39 x7_39).f0)) ∧ w'.cell? ⟨go76, ((x7_39).toNat * 4) + 1, none⟩ = some (.int .i64 ((rd_T39 x163000_39 x7_39).f1)) ∧ w'.cell? ⟨go76, ((x7_39).toNat * 4) + 2, none⟩ = some (.int .i64 ((rd_T39 x163000_39 x7_39).f2)) ∧ w'.cell? ⟨go76, ((x7_39).toNat * 4) + 3, none⟩ = some (.int .i64 ((rd_T39 x163000_39 x7_39).f3)) ∧ w'.cell? ⟨go76, ((x7_39).toNat * 4), none⟩ = some (.string ((rd_T39 x163000_39 x7_39).f0)) ∧ w'.cell? ⟨go76, ((x7_39).toNat * 4) + 1, none⟩ = some (.int .i64 ((rd_T39 x163000_39 x7_39).f1)) ∧ w'.cell? ⟨go76, ((x7_39).toNat * 4) + 2, none⟩ = some (.int .i64 ((rd_T39 x163000_39 x7_39).f2)) ∧ w'.cell? ⟨go76, ((x7_39).toNat * 4) + 3, none⟩ = some (.int .i64 ((rd_T39 x163000_39 x7_39).f3))) (ds := [18]) b11A0 zG75 rfl rfl ⟨(q11a BK162.out 0).trans rfl, (q11a BK162.out 1).trans rfl, (q11a BK162.out 2).trans rfl, hx185_0, hx185_1, hx185_2, hx185_3, hx186_0, hx186_1, hx186_2, hx186_3⟩ (fun hHeld => ?_); refine with_tabW spec_LedgerOf.tab23 spec_LedgerOf.bits23 (fun HT_ HW_ => ?_)
      generalize w87.drew = w88 at HO_163000 HO_163001 HO184 BK160 BK162 BK164 HB GG76 HQ89 hf76_0 hf76_1 hf76_2 hf76_3 hx181_0 hx181_1 hx181_2 hx181_3 hx185_0 hx185_1 hx185_2 hx185_3 hx186_0 hx186_1 hx186_2 hx186_3 hx76_0 hx76_1 hx76_2 hx76_3 hHeld ⊢
      refine zP 0 106 b11A1 HT_ ?_
      refine zP 2 108 b11A2 HT_ ?_
      refine zP 3 109 b11A3 HT_ ?_
      refine zP 5 111 b11A4 HT_ ?_
      refine zP 9 115 b11A5 HT_ ?_
      refine zP 11 117 b11A6 HT_ ?_
      refine zQ 1 107 b11A7 HT_ HW_ hHeld ?_
      refine zQ 4 110 b11A8 HT_ HW_ hHeld ?_
      refine zP 6 112 b11A9 HT_ ?_
      refine zP 7 113 b11A10 HT_ ?_
      refine zQ 8 114 b11A11 HT_ HW_ hHeld ?_
      refine zQ 10 116 b11A12 HT_ HW_ hHeld ?_
      refine zP 12 118 b11A13 HT_ ?_
      refine zP 13 119 b11A14 HT_ ?_
      refine zQ 14 120 b11A15 HT_ HW_ hHeld ?_
      refine zP 15 121 b11A16 HT_ ?_
      refine zP 16 122 b11A17 HT_ ?_
      refine zP 17 123 b11A18 HT_ ?_
      refine last_ (i := 18) (N := none) b11A19 rfl rfl (one_of HT_.out zG75) zG76 (fun K hK => ?_)
      refine skip_ (w1 := ?_) (by rfl) rfl ?_ ?_
      rotate_left
      ·go_simp
       rfl
      refine hK.out _ _ ?_
      clear hK K
      refine done_ (done_of HT_.out zG75) ?_
      try go_wp2
      go_roundg kj39
      case measure => have := HK1.out; have := HJ39.out; omega
      case rel =>
        obtain ⟨_, ho_⟩ := Kd.R_own HO_163000.out
        obtain ⟨cl_, hg_⟩ := own_typed ho_ go76 rfl
        have GG76 := Aside0.mk hg_
        exact ⟨(wrap64 (x5_1 + 1)), (y187), (x163001_1), (y182), (.slice (some ⟨go76, 0, none⟩) x163000_39.length co81), (u163001), (.slice Ao85 y182.length co85), zG74, H', ⟨by have := HK1.out; have := HJ39.out; omega⟩, ⟨by (with_reducible repeat (first | apply zj | apply zk | apply zl)); exact HQ89.out⟩, ⟨by (with_reducible repeat (first | apply zj | apply zk | apply zl)); exact zp (zn (p := ⟨go76, (x7_39 : Int).toNat * 4 + 1, none⟩) (zs HO_163001.out GG76.out zG76) (fun _ hk => hk.2) (.int .i64 (wrap64 (((rd_T39 x163000_39 x7_39).f2) - ((rd_T39 x163000_39 x7_39).f3))))) (fun _ hk => trivial)⟩, ⟨by (with_reducible repeat (first | apply zj | apply zk | apply zl)); exact zp (zn (p := ⟨go76, (x7_39 : Int).toNat * 4 + 1, none⟩) (zs HO184.out GG76.out zG76) (fun _ hk => hk.2) (.int .i64 (wrap64 (((rd_T39 x163000_39 x7_39).f2) - ((rd_T39 x163000_39 x7_39).f3))))) (fun _ hk => trivial)⟩, ⟨zH18⟩, ⟨zH19⟩, ⟨by repeat (first | (with_reducible first | exact HB.out | apply zf | apply zc | apply ze | refine zg ?_ GB76.out | refine zg ?_ GE160.out | refine zg ?_ GE162.out | refine zg ?_ GE164.out) | exact HB.out)⟩⟩
     rw [if_neg c74] at H
     have c74b0 : decide (((rd_T39 x163000_39 x7_39).f1) < ((rd_T35 l0 x5_1).f5)) = false := decide_eq_false c74
     clear c74
     obtain ⟨y189, hy189⟩ : ∃ y_ : List (S39), y_ = (x163000_39.set (x7_39 : Int).toNat (⟨(rd_T39 x163000_39 x7_39).f0, (rd_T39 x163000_39 x7_39).f1, (rd_T39 x163000_39 x7_39).f2, wrap64 (((rd_T39 x163000_39 x7_39).f3) + ((rd_T35 l0 x5_1).f5))⟩ : S39)) := ⟨_, rfl⟩
     replace H : (spec_LedgerOf.l0 kj39 l0 (wrap64 (x5_1 + 1)) (y189.set (x7_39 : Int).toNat (⟨(rd_T39 y189 x7_39).f0, wrap64 (((rd_T39 y189 x7_39).f2) - ((rd_T39 y189 x7_39).f3)), (rd_T39 y189 x7_39).f2, (rd_T39 y189 x7_39).f3⟩ : S39)) x163001_1 x163002_1) = some (r1, r2, r3, r4) := by first | (rw [hy189]; with_reducible exact H) | (have H2_ := (Option.bind_some _ _).symm.trans H; rw [hy189]; with_reducible exact H2_) | (have H2_ := (Option.bind_some _ _).symm.trans H; with_reducible exact H2_) | with_reducible exact H | (rw [hy189]; exact H) | exact H
     have Ny189 := zb hy189
     clear hy189
     obtain ⟨y192, hy192⟩ : ∃ y_ : List (S39), y_ = (y189.set (x7_39 : Int).toNat (⟨(rd_T39 y189 x7_39).f0, wrap64 (((rd_T39 y189 x7_39).f2) - ((rd_T39 y189 x7_39).f3)), (rd_T39 y189 x7_39).f2, (rd_T39 y189 x7_39).f3⟩ : S39)) := ⟨_, rfl⟩
     replace H : (spec_LedgerOf.l0 kj39 l0 (wrap64 (x5_1 + 1)) y192 x163001_1 x163002_1) = some (r1, r2, r3, r4) := by first | (rw [hy192]; with_reducible exact H) | (have H2_ := (Option.bind_some _ _).symm.trans H; rw [hy192]; with_reducible exact H2_) | (have H2_ := (Option.bind_some _ _).symm.trans H; with_reducible exact H2_) | with_reducible exact H | (rw [hy192]; exact H) | exact H
     have Ny192 := zb hy192
     clear hy192
     have H' := zb H
     clear H
     have hnb92 := NB164_160.out
     have hnc92 := NB160_164.out
     have hnb93 := NB164_162.out
     have hnc93 := NB162_164.out
     have hcz94_0 : wc.cell? ⟨gb164, 0, none⟩ = some (.int .i64 ((rd_T35 l0 x5_1).f0)) := (q11a BK164.out 0).trans rfl
     have hcz94_1 : wc.cell? ⟨gb164, 1, none⟩ = some (.int .i64 ((rd_T35 l0 x5_1).f1)) := (q11a BK164.out 1).trans rfl
     have hcz94_2 : wc.cell? ⟨gb164, 2, none⟩ = some (.int .i64 ((rd_T35 l0 x5_1).f2)) := (q11a BK164.out 2).trans rfl
     have hcz94_3 : wc.cell? ⟨gb164, 3, none⟩ = some (.int .i64 ((rd_T35 l0 x5_1).f3)) := (q11a BK164.out 3).trans rfl
     have hcz94_4 : wc.cell? ⟨gb164, 4, none⟩ = some (.string ((rd_T35 l0 x5_1).f4)) := (q11a BK164.out 4).trans rfl
     have hcz94_5 : wc.cell? ⟨gb164, 5, none⟩ = some (.int .i64 ((rd_T35 l0 x5_1).f5)) := (q11a BK164.out 5).trans rfl
     have hfz94_0 := zd BK164.out 0
     have hfz94_1 := zd BK164.out 1
     have hfz94_2 := zd BK164.out 2
     have hfz94_3 := zd BK164.out 3
     have hfz94_4 := zd BK164.out 4
     have hfz94_5 := zd BK164.out 5
     try go_wp2
     obtain ⟨n0_, n1_, n2_, n3_, n4_, n5_, n6_⟩ := zD7 (zl HO_163000.out) (zl HO_163001.out) (zl HO_163002.out) (zm BK160.out) (zm BK162.out) (zm BK164.out) (ze HB.out)
     clear HO_163000 HO_163001 HO_163002 BK160 BK162 BK164 HB
     have HO_163000 := n0_
     have HO_163001 := n1_
     have HO_163002 := n2_
     have BK160 := n3_
     have BK162 := n4_
     have BK164 := n5_
     have HB := n6_
     clear n0_ n1_ n2_ n3_ n4_ n5_ n6_
     obtain ⟨Ao96, co96, eo96⟩ := zy HO_163000.out
     (first | subst eo96 | (injection eo96 with f1_ f2_ f3_; have f4_ := f1_.symm; have f5_ := f3_.symm; clear f1_ f2_ f3_; subst f4_; subst f5_))
     have p181 : 0 ≤ (x7_39 : Int) := zO
     have q181 : x7_39 < (x163000_39.length : Int) := zO
     obtain ⟨ad181, e181, hx181_0, hx181_1, hx181_2, hx181_3⟩ := at_T39 (Kd.R_reads' HO_163000.out).2.2 x7_39 p181 q181
     cases e181
     replace p181 := eq_true p181
     replace q181 := eq_true q181
     refine start_ (n := 9) (S := fun w' => w'.cell? ⟨gb164, 0, none⟩ = some (.int .i64 ((rd_T35 l0 x5_1).f0)) ∧ w'.cell? ⟨gb164, 1, none⟩ = some (.int .i64 ((rd_T35 l0 x5_1).f1)) ∧ w'.cell? ⟨gb164, 2, none⟩ = some (.int .i64 ((rd_T35 l0 x5_1).f2)) ∧ w'.cell? ⟨gb164, 3, none⟩ = some (.int .i64 ((rd_T35 l0 x5_1).f3)) ∧ w'.cell? ⟨gb164, 4, none⟩ = some (.string ((rd_T35 l0 x5_1).f4)) ∧ w'.cell? ⟨gb164, 5, none⟩ = some (.int .i64 ((rd_T35 l0 x5_1).f5)) ∧ w'.cell? ⟨gb162, 0, none⟩ = some (.slice (some ad181) x163000_39.length co96) ∧ w'.cell? ⟨gb162, 1, none⟩ = some (u163001) ∧ w'.cell? ⟨gb162, 2, none⟩ = some (u163002) ∧ w'.cell? (ad181.add ((x7_39).toNat * 4)) = some (.string ((rd_T39 x163000_39 x7_39).f0)) ∧ w'.cell? ⟨(ad181.add ((x7_39).toNat * 4)).block, (ad181.add ((x7_39).toNat * 4)).off + 1, none⟩ = some (.int .i64 ((rd_T39 x163000_39 x7_39).f1)) ∧ w'.cell? ⟨(ad181.add ((x7_39).toNat * 4)).block, (ad181.add ((x7_39).toNat * 4)).off + 2, none⟩ = some (.int .i64 ((rd_T39 x163000_39 x7_39).f2)) ∧ w'.cell? ⟨(ad181.add ((x7_39).toNat * 4)).block, (ad181.add ((x7_39).toNat * 4)).off + 3, none⟩ = some (.int .i64 ((rd_T39 x163000_39 x7_39).f3))) (ds := []) b11A33 zG75 rfl rfl ⟨(q11a BK164.out 0).trans rfl, (q11a BK164.out 1).trans rfl, (q11a BK164.out 2).trans rfl, (q11a BK164.out 3).trans rfl, (q11a BK164.out 4).trans rfl, (q11a BK164.out 5).trans rfl, (q11a BK162.out 0).trans rfl, (q11a BK162.out 1).trans rfl, (q11a BK162.out 2).trans rfl, hx181_0, hx181_1, hx181_2, hx181_3⟩ (fun hHeld => ?_); refine with_tabW spec_LedgerOf.tab20 spec_LedgerOf.bits20 (fun HT_ HW_ => ?_)
     generalize wc.drew = w95 at HO_163000 HO_163001 HO_163002 BK160 BK162 BK164 HB hx181_0 hx181_1 hx181_2 hx181_3 hHeld ⊢
     refine zP 0 80 b11A34 HT_ ?_
     refine zP 2 82 b11A35 HT_ ?_
     refine zP 4 84 b11A36 HT_ ?_
     refine zQ 1 81 b11A37 HT_ HW_ hHeld ?_
     refine zQ 3 83 b11A38 HT_ HW_ hHeld ?_
     refine zP 5 85 b11A39 HT_ ?_
     refine zP 6 86 b11A40 HT_ ?_
     refine zQ 7 87 b11A41 HT_ HW_ hHeld ?_
     refine zP 8 88 b11A42 HT_ ?_
     refine done_ (done_of HT_.out zG75) ?_
     try go_wp2
     obtain ⟨n0_, n1_, n2_, n3_, n4_, n5_, n6_⟩ := zD7 (zl HO_163000.out) (zl HO_163001.out) (zl HO_163002.out) (zm BK160.out) (zm BK162.out) (zm BK164.out) (ze HB.out)
     clear HO_163000 HO_163001 HO_163002 BK160 BK162 BK164 HB
     have HO_163000 := n0_
     have HO_163001 := n1_
     have HO_163002 := n2_
     have BK160 := n3_
     have BK162 := n4_
     have BK164 := n5_
     have HB := n6_
     clear n0_ n1_ n2_ n3_ n4_ n5_ n6_
     have p188 : 0 ≤ (x7_39 : Int) := zO
     have q188 : x7_39 < (x163000_39.length : Int) := zO
     obtain ⟨ad188, e188, hx188_0, hx188_1, hx188_2, hx188_3⟩ := at_T39 (Kd.R_reads' HO_163000.out).2.2 x7_39 p188 q188
     obtain rfl : ad181 = ad188 := (by injection e188)
     replace p188 := eq_true p188
     replace q188 := eq_true q188
     have p90 : 0 ≤ (x7_39 : Int) := zO
     have q90 : (x7_39 : Int) < ((x163000_39.length : Int) : Int) := zO
     obtain ⟨go90, co90, eo90, gb90, gl90, cl90, HG90⟩ := zas HO_163000.out (by omega)
     (first | cases eo90 | (injection eo90 with ea_ en_ ec_; (first | subst ea_ | (injection ea_ with ea_; subst ea_)); subst ec_; clear en_))
     obtain ⟨GB90, GG90⟩ := zD2 gb90 HG90
     clear gb90 gl90 HG90
     (first | simp only [add_plain] at hx181_0 | skip)
     (first | simp only [add_plain] at hx181_1 | skip)
     (first | simp only [add_plain] at hx181_2 | skip)
     (first | simp only [add_plain] at hx181_3 | skip)
     (first | simp only [add_plain] at hx188_0 | skip)
     (first | simp only [add_plain] at hx188_1 | skip)
     (first | simp only [add_plain] at hx188_2 | skip)
     (first | simp only [add_plain] at hx188_3 | skip)
     obtain ⟨ce90, hcl90, hM90, hcc90, hfr90⟩ := zaf HO_163000.out z39 (x7_39 : Int) p90 q90
     obtain rfl := k39_openM hM90
     have hx90_0 : World.cell? _ ⟨go90, (x7_39 : Int).toNat * 4, none⟩ = some (.string ((rd_T39 x163000_39 x7_39).f0)) := hcc90 0 _ rfl
     have hx90_1 : World.cell? _ ⟨go90, (x7_39 : Int).toNat * 4 + 1, none⟩ = some (.int .i64 ((rd_T39 x163000_39 x7_39).f1)) := hcc90 1 _ rfl
     have hx90_2 : World.cell? _ ⟨go90, (x7_39 : Int).toNat * 4 + 2, none⟩ = some (.int .i64 ((rd_T39 x163000_39 x7_39).f2)) := hcc90 2 _ rfl
     have hx90_3 : World.cell? _ ⟨go90, (x7_39 : Int).toNat * 4 + 3, none⟩ = some (.int .i64 ((rd_T39 x163000_39 x7_39).f3)) := hcc90 3 _ rfl
     have hf90_0 : World.frozen? _ ⟨go90, (x7_39 : Int).toNat * 4, none⟩ = false := hfr90 0
     have hf90_1 : World.frozen? _ ⟨go90, (x7_39 : Int).toNat * 4 + 1, none⟩ = false := hfr90 1
     have hf90_2 : World.frozen? _ ⟨go90, (x7_39 : Int).toNat * 4 + 2, none⟩ = false := hfr90 2
     have hf90_3 : World.frozen? _ ⟨go90, (x7_39 : Int).toNat * 4 + 3, none⟩ = false := hfr90 3
     clear hcl90 hcc90 hfr90 hM90
     replace p90 := eq_true p90
     replace q90 := eq_true q90
     obtain ⟨ce98, hcl98, hM98, hcc98, hfr98⟩ := zaf HO_163000.out z39 (x7_39 : Int) zO (by have h_ : (x7_39 : Int) < ((x163000_39.length : Int) : Int) := zO; first | exact h_ | (have e_ := (Kd.R_reads' HO_163000.out).1; omega) | simpa using h_)
     obtain rfl := k39_openM hM98
     have HP98 := (zaj HO_163000.out (x7_39 : Int) zO (by have h_ : (x7_39 : Int) < ((x163000_39.length : Int) : Int) := zO; first | exact h_ | (have e_ := (Kd.R_reads' HO_163000.out).1; omega) | simpa using h_) (seg := [.int .i64 (wrap64 (((rd_T39 x163000_39 x7_39).f3) + ((rd_T35 l0 x5_1).f5)))]) (j := 3) hcl98 hcc98 (show 4 ≤ 4 from by decide) (x' := (⟨(rd_T39 x163000_39 x7_39).f0, (rd_T39 x163000_39 x7_39).f1, (rd_T39 x163000_39 x7_39).f2, wrap64 (((rd_T39 x163000_39 x7_39).f3) + ((rd_T35 l0 x5_1).f5))⟩ : S39)) (k39_mkM _ _ _ (⟨(rd_T39 x163000_39 x7_39).f0, (rd_T39 x163000_39 x7_39).f1, (rd_T39 x163000_39 x7_39).f2, wrap64 (((rd_T39 x163000_39 x7_39).f3) + ((rd_T35 l0 x5_1).f5))⟩ : S39) ) (fun _ hk => hk)).1
     rw [← Ny189.out] at HP98
     have HQ98 := zb HP98
     clear hcl98 hcc98 hfr98 hM98 HP98
     refine start_ (n := 12) (S := fun w' => w'.cell? ⟨gb162, 0, none⟩ = some (.slice (some ⟨go90, 0, none⟩) x163000_39.length co96) ∧ w'.cell? ⟨gb162, 1, none⟩ = some (u163001) ∧ w'.cell? ⟨gb162, 2, none⟩ = some (u163002) ∧ w'.cell? ⟨gb164, 0, none⟩ = some (.int .i64 ((rd_T35 l0 x5_1).f0)) ∧ w'.cell? ⟨gb164, 1, none⟩ = some (.int .i64 ((rd_T35 l0 x5_1).f1)) ∧ w'.cell? ⟨gb164, 2, none⟩ = some (.int .i64 ((rd_T35 l0 x5_1).f2)) ∧ w'.cell? ⟨gb164, 3, none⟩ = some (.int .i64 ((rd_T35 l0 x5_1).f3)) ∧ w'.cell? ⟨gb164, 4, none⟩ = some (.string ((rd_T35 l0 x5_1).f4)) ∧ w'.cell? ⟨gb164, 5, none⟩ = some (.int .i64 ((rd_T35 l0 x5_1).f5)) ∧ w'.cell? ⟨go90, ((x7_39).toNat * 4), none⟩ = some (.string ((rd_T39 x163000_39 x7_39).f0)) ∧ w'.cell? ⟨go90, ((x7_39).toNat * 4) + 1, none⟩ = some (.int .i64 ((rd_T39 x163000_39 x7_39).f1)) ∧ w'.cell? ⟨go90, ((x7_39).toNat * 4) + 2, none⟩ = some (.int .i64 ((rd_T39 x163000_39 x7_39).f2)) ∧ w'.cell? ⟨go90, ((x7_39).toNat * 4) + 3, none⟩ = some (.int .i64 ((rd_T39 x163000_39 x7_39).f3))) (ds := [11]) b11A20 zG75 rfl rfl ⟨(q11a BK162.out 0).trans rfl, (q11a BK162.out 1).trans rfl, (q11a BK162.out 2).trans rfl, (q11a BK164.out 0).trans rfl, (q11a BK164.out 1).trans rfl, (q11a BK164.out 2).trans rfl, (q11a BK164.out 3).trans rfl, (q11a BK164.out 4).trans rfl, (q11a BK164.out 5).trans rfl, hx188_0, hx188_1, hx188_2, hx188_3⟩ (fun hHeld => ?_); refine with_tabW spec_LedgerOf.tab22 spec_LedgerOf.bits22 (fun HT_ HW_ => ?_)
     generalize w95.drew = w97 at HO_163000 HO_163001 HO_163002 BK160 BK162 BK164 HB GG90 HQ98 hf90_0 hf90_1 hf90_2 hf90_3 hx181_0 hx181_1 hx181_2 hx181_3 hx188_0 hx188_1 hx188_2 hx188_3 hx90_0 hx90_1 hx90_2 hx90_3 hHeld ⊢
     refine zP 0 95 b11A21 HT_ ?_
     refine zP 2 97 b11A22 HT_ ?_
     refine zP 6 101 b11A23 HT_ ?_
     refine zQ 1 96 b11A24 HT_ HW_ hHeld ?_
     refine zP 3 98 b11A25 HT_ ?_
     refine zP 4 99 b11A26 HT_ ?_
     refine zQ 5 100 b11A27 HT_ HW_ hHeld ?_
     refine zQ 7 102 b11A28 HT_ HW_ hHeld ?_
     refine zP 8 103 b11A29 HT_ ?_
     refine zP 9 104 b11A30 HT_ ?_
     refine zP 10 105 b11A31 HT_ ?_
     refine last_ (i := 11) (N := none) b11A32 rfl rfl (one_of HT_.out zG75) zG76 (fun K hK => ?_)
     refine skip_ (w1 := ?_) (by rfl) rfl ?_ ?_
     rotate_left
     ·go_simp
      rfl
     refine hK.out _ _ ?_
     clear hK K
     refine done_ (done_of HT_.out zG75) ?_
     try go_wp2
     have n0_ : Aside0 (Kd.R k39 39 (w97.setCell ⟨go90, (x7_39 : Int).toNat * 4 + 3, none⟩ (.int .i64 (wrap64 (((rd_T39 x163000_39 x7_39).f3) + ((rd_T35 l0 x5_1).f5))))) w.heap.size (fun _ => True) (.slice (some ⟨go90, 0, none⟩) x163000_39.length co96) y189) := ⟨by (with_reducible repeat (first | apply zj | apply zk | apply zl)); exact HQ98.out⟩
     have n1_ : Aside0 (Kd.R Kd.string 9 (w97.setCell ⟨go90, (x7_39 : Int).toNat * 4 + 3, none⟩ (.int .i64 (wrap64 (((rd_T39 x163000_39 x7_39).f3) + ((rd_T35 l0 x5_1).f5))))) w.heap.size (fun _ => True) u163001 x163001_1) := ⟨by (with_reducible repeat (first | apply zj | apply zk | apply zl)); exact zp (zn (p := ⟨go90, (x7_39 : Int).toNat * 4 + 3, none⟩) (zs HO_163001.out GG90.out zG76) (fun _ hk => hk.2) (.int .i64 (wrap64 (((rd_T39 x163000_39 x7_39).f3) + ((rd_T35 l0 x5_1).f5))))) (fun _ hk => trivial)⟩
     have n2_ : Aside0 (Kd.R (Kd.int .i64) 3 (w97.setCell ⟨go90, (x7_39 : Int).toNat * 4 + 3, none⟩ (.int .i64 (wrap64 (((rd_T39 x163000_39 x7_39).f3) + ((rd_T35 l0 x5_1).f5))))) w.heap.size (fun _ => True) u163002 x163002_1) := ⟨by (with_reducible repeat (first | apply zj | apply zk | apply zl)); exact zp (zn (p := ⟨go90, (x7_39 : Int).toNat * 4 + 3, none⟩) (zs HO_163002.out GG90.out zG76) (fun _ hk => hk.2) (.int .i64 (wrap64 (((rd_T39 x163000_39 x7_39).f3) + ((rd_T35 l0 x5_1).f5))))) (fun _ hk => trivial)⟩
     have n3_ : Aside0 ((w97.setCell ⟨go90, (x7_39 : Int).toNat * 4 + 3, none⟩ (.int .i64 (wrap64 (((rd_T39 x163000_39 x7_39).f3) + ((rd_T35 l0 x5_1).f5))))).heap[gb160]? = some (.cells #[.slice none 0 0, .slice none 0 0, .slice none 0 0] 31 (0, 0))) := ⟨zH18⟩
     have n4_ : Aside0 ((w97.setCell ⟨go90, (x7_39 : Int).toNat * 4 + 3, none⟩ (.int .i64 (wrap64 (((rd_T39 x163000_39 x7_39).f3) + ((rd_T35 l0 x5_1).f5))))).heap[gb162]? = some (.cells #[.slice (some ⟨go90, 0, none⟩) x163000_39.length co96, u163001, u163002] 31 (0, 0))) := ⟨zH19⟩
     have n5_ : Aside0 ((w97.setCell ⟨go90, (x7_39 : Int).toNat * 4 + 3, none⟩ (.int .i64 (wrap64 (((rd_T39 x163000_39 x7_39).f3) + ((rd_T35 l0 x5_1).f5))))).heap[gb164]? = some (.cells #[.int .i64 ((rd_T35 l0 x5_1).f0), .int .i64 ((rd_T35 l0 x5_1).f1), .int .i64 ((rd_T35 l0 x5_1).f2), .int .i64 ((rd_T35 l0 x5_1).f3), .string ((rd_T35 l0 x5_1).f4), .int .i64 ((rd_T35 l0 x5_1).f5)] 35 (0, 0))) := ⟨zH17⟩
     have n6_ : Aside0 (Below w.heap.size w (w97.setCell ⟨go90, (x7_39 : Int).toNat * 4 + 3, none⟩ (.int .i64 (wrap64 (((rd_T39 x163000_39 x7_39).f3) + ((rd_T35 l0 x5_1).f5)))))) := ⟨zH34⟩
     (try clear HO_163000)
     (try clear HO_163001)
     (try clear HO_163002)
     (try clear BK160)
     (try clear BK162)
     (try clear BK164)
     (try clear HB)
     generalize (w97.setCell ⟨go90, (x7_39 : Int).toNat * 4 + 3, none⟩ (.int .i64 (wrap64 (((rd_T39 x163000_39 x7_39).f3) + ((rd_T35 l0 x5_1).f5))))) = w99 at n0_ n1_ n2_ n3_ n4_ n5_ n6_ ⊢
     have HO_163000 := n0_
     have HO_163001 := n1_
     have HO_163002 := n2_
     have BK160 := n3_
     have BK162 := n4_
     have BK164 := n5_
     have HB := n6_
     clear n0_ n1_ n2_ n3_ n4_ n5_ n6_
     obtain ⟨n0_, n1_, n2_, n3_, n4_, n5_, n6_⟩ := zD7 (zl HO_163000.out) (zl HO_163001.out) (zl HO_163002.out) (zm BK160.out) (zm BK162.out) (zm BK164.out) (ze HB.out)
     clear HO_163000 HO_163001 HO_163002 BK160 BK162 BK164 HB
     have HO_163000 := n0_
     have HO_163001 := n1_
     have HO_163002 := n2_
     have BK160 := n3_
     have BK162 := n4_
     have BK164 := n5_
     have HB := n6_
     clear n0_ n1_ n2_ n3_ n4_ n5_ n6_
     have p190 : 0 ≤ (x7_39 : Int) := zO
     have q190 : x7_39 < (y189.length : Int) := (by have h_ : (x7_39 : Int) < ((x163000_39.length : Int) : Int) := zO; first | (have e_ := (Kd.R_reads' HO_163000.out).1; omega) | simpa only [Ny189.out, List.length_set] using h_)
     have ql190 : ((x7_39 : Int) < ((x163000_39.length : Int) : Int)) = True := eq_true zO
     obtain ⟨ad190, e190, hx190_0, hx190_1, hx190_2, hx190_3⟩ := at_T39 (Kd.R_reads' HO_163000.out).2.2 x7_39 p190 q190
     obtain rfl : (⟨go90, 0, none⟩ : Addr) = ad190 := (by injection e190)
     (first | simp only [add_plain] at hx190_0 | simp only [add_at] at hx190_0 | simp only [Addr.add, Nat.zero_add] at hx190_0 | skip)
     (first | simp only [add_plain] at hx190_1 | simp only [add_at] at hx190_1 | simp only [Addr.add, Nat.zero_add] at hx190_1 | skip)
     (first | simp only [add_plain] at hx190_2 | simp only [add_at] at hx190_2 | simp only [Addr.add, Nat.zero_add] at hx190_2 | skip)
     (first | simp only [add_plain] at hx190_3 | simp only [add_at] at hx190_3 | simp only [Addr.add, Nat.zero_add] at hx190_3 | skip)
     replace p190 := eq_true p190
     replace q190 := eq_true q190
     have p191 : 0 ≤ (x7_39 : Int) := zO
     have q191 : x7_39 < (y189.length : Int) := (by have h_ : (x7_39 : Int) < ((x163000_39.length : Int) : Int) := zO; first | (have e_ := (Kd.R_reads' HO_163000.out).1; omega) | simpa only [Ny189.out, List.length_set] using h_)
     have ql191 : ((x7_39 : Int) < ((x163000_39.length : Int) : Int)) = True := eq_true zO
     obtain ⟨ad191, e191, hx191_0, hx191_1, hx191_2, hx191_3⟩ := at_T39 (Kd.R_reads' HO_163000.out).2.2 x7_39 p191 q191
     obtain rfl : (⟨go90, 0, none⟩ : Addr) = ad191 := (by injection e191)
     (first | simp only [add_plain] at hx191_0 | simp only [add_at] at hx191_0 | simp only [Addr.add, Nat.zero_add] at hx191_0 | skip)
     (first | simp only [add_plain] at hx191_1 | simp only [add_at] at hx191_1 | simp only [Addr.add, Nat.zero_add] at hx191_1 | skip)
     (first | simp only [add_plain] at hx191_2 | simp only [add_at] at hx191_2 | simp only [Addr.add, Nat.zero_add] at hx191_2 | skip)
     (first | simp only [add_plain] at hx191_3 | simp only [add_at] at hx191_3 | simp only [Addr.add, Nat.zero_add] at hx191_3 | skip)
     replace p191 := eq_true p191
     replace q191 := eq_true q191
     have p91 : 0 ≤ (x7_39 : Int) := zO
     have q91 : (x7_39 : Int) < ((x163000_39.length : Int) : Int) := zO
     obtain ⟨ce91, hcl91, hM91, hcc91, hfr91⟩ := zaf HO_163000.out z39 (x7_39 : Int) p91 q91
     obtain rfl := k39_openM hM91
     have hx91_0 : World.cell? _ ⟨go90, (x7_39 : Int).toNat * 4, none⟩ = some (.string ((rd_T39 y189 x7_39).f0)) := hcc91 0 _ rfl
     have hx91_1 : World.cell? _ ⟨go90, (x7_39 : Int).toNat * 4 + 1, none⟩ = some (.int .i64 ((rd_T39 y189 x7_39).f1)) := hcc91 1 _ rfl
     have hx91_2 : World.cell? _ ⟨go90, (x7_39 : Int).toNat * 4 + 2, none⟩ = some (.int .i64 ((rd_T39 y189 x7_39).f2)) := hcc91 2 _ rfl
     have hx91_3 : World.cell? _ ⟨go90, (x7_39 : Int).toNat * 4 + 3, none⟩ = some (.int .i64 ((rd_T39 y189 x7_39).f3)) := hcc91 3 _ rfl
     have hf91_0 : World.frozen? _ ⟨go90, (x7_39 : Int).toNat * 4, none⟩ = false := hfr91 0
     have hf91_1 : World.frozen? _ ⟨go90, (x7_39 : Int).toNat * 4 + 1, none⟩ = false := hfr91 1
     have hf91_2 : World.frozen? _ ⟨go90, (x7_39 : Int).toNat * 4 + 2, none⟩ = false := hfr91 2
     have hf91_3 : World.frozen? _ ⟨go90, (x7_39 : Int).toNat * 4 + 3, none⟩ = false := hfr91 3
     clear hcl91 hcc91 hfr91 hM91
     replace p91 := eq_true p91
     replace q91 := eq_true q91
     obtain ⟨ce101, hcl101, hM101, hcc101, hfr101⟩ := zaf HO_163000.out z39 (x7_39 : Int) zO (by have h_ : (x7_39 : Int) < ((x163000_39.length : Int) : Int) := zO; first | exact h_ | (have e_ := (Kd.R_reads' HO_163000.out).1; omega) | simpa using h_)
     obtain rfl := k39_openM hM101
     have HP101 := (zaj HO_163000.out (x7_39 : Int) zO (by have h_ : (x7_39 : Int) < ((x163000_39.length : Int) : Int) := zO; first | exact h_ | (have e_ := (Kd.R_reads' HO_163000.out).1; omega) | simpa using h_) (seg := [.int .i64 (wrap64 (((rd_T39 y189 x7_39).f2) - ((rd_T39 y189 x7_39).f3)))]) (j := 1) hcl101 hcc101 (show 2 ≤ 4 from by decide) (x' := (⟨(rd_T39 y189 x7_39).f0, wrap64 (((rd_T39 y189 x7_39).f2) - ((rd_T39 y189 x7_39).f3)), (rd_T39 y189 x7_39).f2, (rd_T39 y189 x7_39).f3⟩ : S39)) (k39_mkM _ _ _ (⟨(rd_T39 y189 x7_39).f0, wrap64 (((rd_T39 y189 x7_39).f2) - ((rd_T39 y189 x7_39).f3)), (rd_T39 y189 x7_39).f2, (rd_T39 y189 x7_39).f3⟩ : S39) ) (fun _ hk => hk)).1
     rw [← Ny192.out] at HP101
     have HQ101 := zb HP101
     clear hcl101 hcc101 hfr101 hM101 HP101
     refine start_ (n := 19) (S := fun w' => w'.cell? ⟨gb162, 0, none⟩ = some (.slice (some ⟨go90, 0, none⟩) x163000_39.length co96) ∧ w'.cell? ⟨gb162, 1, none⟩ = some (u163001) ∧ w'.cell? ⟨gb162, 2, none⟩ = some (u163002) ∧ w'.cell? ⟨go90, (x7_39).toNat * 4, none⟩ = some (.string ((rd_T39 y189 x7_39).f0)) ∧ w'.cell? ⟨go90, (x7_39).toNat * 4 + 1, none⟩ = some (.int .i64 ((rd_T39 y189 x7_39).f1)) ∧ w'.cell? ⟨go90, (x7_39).toNat * 4 + 2, none⟩ = some (.int .i64 ((rd_T39 y189 x7_39).f2)) ∧ w'.cell? ⟨go90, (x7_39).toNat * 4 + 3, none⟩ = some (.int .i64 ((rd_T39 y189 x7_39).f3)) ∧ w'.cell? ⟨go90, (x7_39).toNat * 4, none⟩ = some (.string ((rd_T39 y189 x7_39).f0)) ∧ w'.cell? ⟨go90, (x7_39).toNat * 4 + 1, none⟩ = some (.int .i64 ((rd_T39 y189 x7_39).f1)) ∧ w'.cell? ⟨go90, (x7_39).toNat * 4 + 2, none⟩ = some (.int .i64 ((rd_T39 y189 x7_39).f2)) ∧ w'.cell? ⟨go90, (x7_39).toNat * 4 + 3, none⟩ = some (.int .i64 ((rd_T39 y189 x7_39).f3))) (ds := [18]) b11A0 zG75 rfl rfl ⟨(q11a BK162.out 0).trans rfl, (q11a BK162.out 1).trans rfl, (q11a BK162.out 2).trans rfl, hx190_0, hx190_1, hx190_2, hx190_3, hx191_0, hx191_1, hx191_2, hx191_3⟩ (fun hHeld => ?_); refine with_tabW spec_LedgerOf.tab23 spec_LedgerOf.bits23 (fun HT_ HW_ => ?_)
     generalize w99.drew = w100 at HO_163000 HO_163001 HO_163002 BK160 BK162 BK164 HB HQ101 HQ98 hf91_0 hf91_1 hf91_2 hf91_3 hx190_0 hx190_1 hx190_2 hx190_3 hx191_0 hx191_1 hx191_2 hx191_3 hx91_0 hx91_1 hx91_2 hx91_3 hHeld ⊢
     refine zP 0 106 b11A1 HT_ ?_
     refine zP 2 108 b11A2 HT_ ?_
     refine zP 3 109 b11A3 HT_ ?_
     refine zP 5 111 b11A4 HT_ ?_
     refine zP 9 115 b11A5 HT_ ?_
     refine zP 11 117 b11A6 HT_ ?_
     refine zQ 1 107 b11A7 HT_ HW_ hHeld ?_
     refine zQ 4 110 b11A8 HT_ HW_ hHeld ?_
     refine zP 6 112 b11A9 HT_ ?_
     refine zP 7 113 b11A10 HT_ ?_
     refine zQ 8 114 b11A11 HT_ HW_ hHeld ?_
     refine zQ 10 116 b11A12 HT_ HW_ hHeld ?_
     refine zP 12 118 b11A13 HT_ ?_
     refine zP 13 119 b11A14 HT_ ?_
     refine zQ 14 120 b11A15 HT_ HW_ hHeld ?_
     refine zP 15 121 b11A16 HT_ ?_
     refine zP 16 122 b11A17 HT_ ?_
     refine zP 17 123 b11A18 HT_ ?_
     refine last_ (i := 18) (N := none) b11A19 rfl rfl (one_of HT_.out zG75) zG76 (fun K hK => ?_)
     refine skip_ (w1 := ?_) (by rfl) rfl ?_ ?_
     rotate_left
     ·go_simp
      rfl
     refine hK.out _ _ ?_
     clear hK K
     refine done_ (done_of HT_.out zG75) ?_
     try go_wp2
     go_roundg kj39
     case measure => have := HK1.out; have := HJ39.out; omega
     case rel =>
       obtain ⟨_, ho_⟩ := Kd.R_own HO_163000.out
       obtain ⟨cl_, hg_⟩ := own_typed ho_ go90 rfl
       have GG90 := Aside0.mk hg_
       exact ⟨(wrap64 (x5_1 + 1)), (y192), (x163001_1), (x163002_1), (.slice (some ⟨go90, 0, none⟩) x163000_39.length co96), (u163001), (u163002), zG74, H', ⟨by have := HK1.out; have := HJ39.out; omega⟩, ⟨by (with_reducible repeat (first | apply zj | apply zk | apply zl)); exact HQ101.out⟩, ⟨by (with_reducible repeat (first | apply zj | apply zk | apply zl)); exact zp (zn (p := ⟨go90, (x7_39 : Int).toNat * 4 + 1, none⟩) (zs HO_163001.out GG90.out zG76) (fun _ hk => hk.2) (.int .i64 (wrap64 (((rd_T39 y189 x7_39).f2) - ((rd_T39 y189 x7_39).f3))))) (fun _ hk => trivial)⟩, ⟨by (with_reducible repeat (first | apply zj | apply zk | apply zl)); exact zp (zn (p := ⟨go90, (x7_39 : Int).toNat * 4 + 1, none⟩) (zs HO_163002.out GG90.out zG76) (fun _ hk => hk.2) (.int .i64 (wrap64 (((rd_T39 y189 x7_39).f2) - ((rd_T39 y189 x7_39).f3))))) (fun _ hk => trivial)⟩, ⟨zH18⟩, ⟨zH19⟩, ⟨zH34⟩⟩
end Go.Proofs.Ytoibmbkmpadmnaa.G
