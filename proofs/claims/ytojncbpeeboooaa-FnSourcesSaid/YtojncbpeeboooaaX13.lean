-- squeezed
-- made by pp.py (wip/tools) out of the translation; Lean checks it
import Derived.Test.YtojncbpeeboooaaX0
import Derived.Test.YtojncbpeeboooaaX11
import Derived.Test.YtojncbpeeboooaaX12
namespace Go.Proofs.Ytojncbpeeboooaa.X
open Go.RowKit Go.Proofs.YtojncbpeeboooaaW.PrintWords Go.Proofs.YtojncbpeeboooaaW.PrintLast Go.Proofs.YtojncbpeeboooaaW.PrintMore
attribute [local go_sem] max2_int min2_int max_two min_two max_three min_three max_four min_four   -- for this text's walks alone
set_option linter.unusedVariables false
set_option linter.unusedSimpArgs false

abbrev b13A0 := zM 16 16383
abbrev b13A1 := zM 16 0
abbrev b13A2 := zM 16 1
abbrev b13A3 := zM 16 3
abbrev b13A4 := zM 16 7
abbrev b13A5 := zM 16 23
abbrev b13A6 := zM 16 8191
abbrev b13A7 := zM 16 32767
abbrev b13A8 := zM 16 65535
abbrev b13A9 := zM 16 55
abbrev b13A10 := zM 16 119
abbrev b13A11 := zM 16 375
abbrev b13A12 := zM 16 383
abbrev b13A13 := zM 16 511
abbrev b13A14 := zM 16 1023
abbrev b13A15 := zM 16 8703
abbrev b13A16 := zM 16 2047
abbrev b13A17 := zM 16 4095
abbrev b13A18 := zM 16 9215
abbrev b13A19 := zM 16 10239
abbrev b13A20 := zM 16 12287
abbrev b13A21 := zM 35 0
abbrev b13A22 := zM 35 1
abbrev b13A23 := zM 35 3
abbrev b13A24 := zM 35 7
abbrev b13A25 := zM 35 15
abbrev b13A26 := zM 35 31
abbrev b13A27 := zM 35 63
abbrev b13A28 := zM 35 127
abbrev b13A29 := zM 35 4095
abbrev b13A30 := zM 35 8191
abbrev b13A31 := zM 35 16383
abbrev b13A32 := zM 35 32767
abbrev b13A33 := zM 35 65535
abbrev b13A34 := zM 35 131071
abbrev b13A35 := zM 35 4194303
abbrev b13A36 := zM 35 8388607
abbrev b13A37 := zM 35 16777215
abbrev b13A38 := zM 35 33554431
abbrev b13A39 := zM 35 67108863
abbrev b13A40 := zM 35 2147483647
abbrev b13A41 := zM 35 4294967295
abbrev b13A42 := zM 35 8589934591
abbrev b13A43 := zM 35 17179869183
abbrev b13A44 := zM 35 34359738367
abbrev b13A45 := zM 35 383
abbrev b13A46 := zM 35 895
abbrev b13A47 := zM 35 1919
abbrev b13A48 := zM 35 3967
abbrev b13A49 := zM 35 134217727
abbrev b13A50 := zM 35 268435455
abbrev b13A51 := zM 35 536870911
abbrev b13A52 := zM 35 1073741823
abbrev b13A53 := zM 35 393215
abbrev b13A54 := zM 35 917503
abbrev b13A55 := zM 35 1966079
abbrev b13A56 := zM 35 4063231
abbrev b13A57 := zM 35 262143
abbrev b13A58 := zM 35 524287
abbrev b13A59 := zM 35 1048575
abbrev b13A60 := zM 35 2097151
abbrev b13A61 := zM 35 201326591
abbrev b13A62 := zM 35 469762047
abbrev b13A63 := zM 35 1006632959
abbrev b13A64 := zM 35 2080374783
abbrev b13A65 := zM 16 151
abbrev b13A66 := zM 16 407
abbrev b13A67 := zM 16 919
abbrev b13A68 := zM 16 2967
abbrev b13A69 := zM 16 7063
abbrev b13A70 := zM 16 7071
abbrev b13A71 := zM 16 7103
abbrev b13A72 := zM 16 7167
/-! ### spec_l23Search_try: function 91 -/
mutual
def spec_l23Search_try.l0 : Nat → List Int → Int → List (S58) → List (S124) → List Int → Int → Int → Bool → Option (List Int × Int × Int × Bool)
 | 0, _, _, _, _, _, _, _, _ => none
 | k + 1, x1, x6, x1000, x1001, x1002, x1003, x1004, x1005 => if x6 < (x1000.length : Int) then (if 0 ≤ x6 then (if 0 ≤ (x1.length : Int) then (if (x1.length : Int) < (x1001.length : Int) then ((spec_l23Has.f k ((rd_T58 x1000 x6).f0) ((rd_T58 x1000 x6).f1) ((rd_T58 x1000 x6).f2) ((rd_T124 x1001 (x1.length : Int)).f0) ((rd_T124 x1001 (x1.length : Int)).f1)).bind fun t357 => (if t357 = true then ((some (([] : List Int) : List Int)).bind fun y358 => (if y358.length + x1.length < 17592186044416 then ((some (y358 ++ x1 : List Int)).bind fun y361 => (if y361.length < 17592186044416 then ((spec_l23Search_try.f k x1000 x1001 x1002 x1003 x1004 x1005 (y361 ++ [x6])).bind fun bt367 => (spec_l23Search_try.l0 k x1 (wrap64 (x6 + 1)) x1000 x1001 bt367.1 bt367.2.1 bt367.2.2.1 bt367.2.2.2)) else (none))) else (none))) else (spec_l23Search_try.l0 k x1 (wrap64 (x6 + 1)) x1000 x1001 x1002 x1003 x1004 x1005))) else (none)) else (none)) else (none)) else (some (x1002, x1003, x1004, x1005))
def spec_l23Search_try.f : Nat → List (S58) → List (S124) → List Int → Int → Int → Bool → List Int → Option (List Int × Int × Int × Bool)
 | 0, _, _, _, _, _, _, _ => none
 | k + 1, l0_0, l0_1, l0_2, a0_3, a0_4, a0_5, l1 => if (l1.length : Int) = (l0_1.length : Int) then ((spec_SourceOf.f k l0_0 l0_1 l1).bind fun bt348 => (if a0_5 = true then (if bt348.2.2.1 < a0_4 then (some (bt348.1, bt348.2.1, bt348.2.2.1, true)) else (if bt348.2.2.1 = a0_4 then (if bt348.2.1 < a0_3 then (some (bt348.1, bt348.2.1, bt348.2.2.1, true)) else (some (l0_2, a0_3, a0_4, a0_5))) else (some (l0_2, a0_3, a0_4, a0_5)))) else (some (bt348.1, bt348.2.1, bt348.2.2.1, true)))) else (spec_l23Search_try.l0 k l1 0 l0_0 l0_1 l0_2 a0_3 a0_4 a0_5)
end
theorem spec_l23Search_try.mono_l : ∀ k, (∀ y0 y1 y2 y3 y4 y5 y6, LeO (spec_l23Search_try.f k y0 y1 y2 y3 y4 y5 y6) (spec_l23Search_try.f (k + 1) y0 y1 y2 y3 y4 y5 y6)) ∧ (∀ y0 y1 y2 y3 y4 y5 y6 y7, LeO (spec_l23Search_try.l0 k y0 y1 y2 y3 y4 y5 y6 y7) (spec_l23Search_try.l0 (k + 1) y0 y1 y2 y3 y4 y5 y6 y7))
 | 0 => ⟨fun _ _ _ _ _ _ _ r h => by simp [spec_l23Search_try.f] at h, fun _ _ _ _ _ _ _ _ r h => by simp [spec_l23Search_try.l0] at h⟩
 | k + 1 => by
  obtain ⟨ih0, ih1⟩ := spec_l23Search_try.mono_l k
  refine ⟨?_, ?_⟩
  ·intro y0 y1 y2 y3 y4 y5 y6
   unfold spec_l23Search_try.f
   repeat' first
   | (with_reducible exact ih0 _ _ _ _ _ _ _)
   | (with_reducible exact ih1 _ _ _ _ _ _ _ _)
   | (with_reducible exact spec_SourceOf.mono _ _ _ _)
   | (with_reducible exact spec_l23Has.mono _ _ _ _ _ _)
   | (with_reducible exact LeO.refl _)
   | (with_reducible exact LeO.none _)
   | (with_reducible refine LeO.ite ?_ ?_)
   | (with_reducible refine LeO.bind ?_ (fun _ => ?_))
   | exact ih0 _ _ _ _ _ _ _
   | exact ih1 _ _ _ _ _ _ _ _
   | exact spec_SourceOf.mono _ _ _ _
   | exact spec_l23Has.mono _ _ _ _ _ _
   | exact LeO.none _
   | refine LeO.ite ?_ ?_
   | refine LeO.bind ?_ (fun _ => ?_)
  ·intro y0 y1 y2 y3 y4 y5 y6 y7
   unfold spec_l23Search_try.l0
   repeat' first
   | (with_reducible exact ih0 _ _ _ _ _ _ _)
   | (with_reducible exact ih1 _ _ _ _ _ _ _ _)
   | (with_reducible exact spec_SourceOf.mono _ _ _ _)
   | (with_reducible exact spec_l23Has.mono _ _ _ _ _ _)
   | (with_reducible exact LeO.refl _)
   | (with_reducible exact LeO.none _)
   | (with_reducible refine LeO.ite ?_ ?_)
   | (with_reducible refine LeO.bind ?_ (fun _ => ?_))
   | exact ih0 _ _ _ _ _ _ _
   | exact ih1 _ _ _ _ _ _ _ _
   | exact spec_SourceOf.mono _ _ _ _
   | exact spec_l23Has.mono _ _ _ _ _ _
   | exact LeO.none _
   | refine LeO.ite ?_ ?_
   | refine LeO.bind ?_ (fun _ => ?_)
theorem spec_l23Search_try.mono : ∀ a0 a1 a2 a3 a4 a5 a6 k, LeO (spec_l23Search_try.f k a0 a1 a2 a3 a4 a5 a6) (spec_l23Search_try.f (k + 1) a0 a1 a2 a3 a4 a5 a6) := by
 intro a0 a1 a2 a3 a4 a5 a6 k
 obtain ⟨ih0, ih1⟩ := spec_l23Search_try.mono_l k
 exact ih0 a0 a1 a2 a3 a4 a5 a6
def spec_l23Search_try.T1 : Bool × List (List Nat × List Nat) := (true, [([], []), ([0], [0]), ([1], [1]), ([2], [2]), ([], []), ([4], [4]), ([5], [5]), ([6], [6]), ([], []), ([3, 7, 8], [3, 7, 8]), ([9], [9]), ([10], [10]), ([10], [10]), ([], []), ([13, 11, 9, 0, 1, 2, 3, 4, 5, 6, 7, 8, 9, 10, 11, 13], [11, 13]), ([12, 14, 0, 1, 2, 3, 4, 5, 6, 7, 8, 9, 10, 11, 12, 13, 14], [12])])
def spec_l23Search_try.B1 : List Nat := [0, 1, 3, 7, 0, 16, 48, 112, 0, 511, 1023, 2047, 2047, 0, 12287, 32767]
theorem spec_l23Search_try.tab1 : rtab .any (opsOf Try.f91 1) = spec_l23Search_try.T1 := by kernel_rfl
theorem spec_l23Search_try.bits1 : waitsOk spec_l23Search_try.T1.2 spec_l23Search_try.B1 = true := by kernel_rfl
def spec_l23Search_try.T2 : Bool × List (List Nat × List Nat) := (true, [([], []), ([0], [0]), ([1], [1]), ([2], [2]), ([3], [3]), ([4], [4]), ([5], [5]), ([6, 5], [5, 6]), ([5], [5]), ([8, 5], [5, 8]), ([9, 5], [5, 9]), ([10, 5], [5, 10]), ([11, 5], [5, 11]), ([7, 12, 5], [5, 7, 12]), ([5, 13], [5, 13]), ([14, 5], [14]), ([15], [15]), ([16, 15], [15, 16]), ([15], [15]), ([18, 15], [15, 18]), ([19, 15], [15, 19]), ([20, 15], [15, 20]), ([21, 15], [15, 21]), ([17, 22, 15], [15, 17, 22]), ([23, 15, 15], [15, 23]), ([24], [24]), ([25, 24], [24, 25]), ([24], [24]), ([27, 24], [24, 27]), ([28, 24], [24, 28]), ([29, 24], [24, 29]), ([30, 24], [24, 30]), ([26, 31, 24], [24, 26, 31]), ([24, 32, 15], [15, 24, 32]), ([15, 33], [15, 33])])
def spec_l23Search_try.B2 : List Nat := [0, 1, 3, 7, 15, 31, 63, 127, 63, 319, 831, 1855, 3903, 8191, 16383, 32767, 65535, 131071, 65535, 327679, 851967, 1900543, 3997695, 8388607, 16777215, 33554431, 67108863, 33554431, 167772159, 436207615, 973078527, 2046820351, 4294967295, 8589934591, 17179869183]
theorem spec_l23Search_try.tab2 : rtab .any (opsOf Try.f91 2) = spec_l23Search_try.T2 := by kernel_rfl
theorem spec_l23Search_try.bits2 : waitsOk spec_l23Search_try.T2.2 spec_l23Search_try.B2 = true := by kernel_rfl
def spec_l23Search_try.T8 : Bool × List (List Nat × List Nat) := (true, [([], []), ([0], [0]), ([1], [1]), ([2], [2]), ([], []), ([3, 4], [3, 4]), ([5], [5]), ([], []), ([7], [7]), ([8], [8]), ([9], [9]), ([], []), ([11], [11]), ([10, 12], [10, 12]), ([13], [13]), ([6, 14], [6, 14])])
def spec_l23Search_try.B8 : List Nat := [0, 1, 3, 7, 0, 31, 63, 0, 128, 384, 896, 0, 2048, 8064, 16256, 32767]
theorem spec_l23Search_try.tab8 : rtab .any (opsOf Try.f91 8) = spec_l23Search_try.T8 := by kernel_rfl
theorem spec_l23Search_try.bits8 : waitsOk spec_l23Search_try.T8.2 spec_l23Search_try.B8 = true := by kernel_rfl
set_option maxHeartbeats 64000000 in
set_option maxRecDepth 100000 in
theorem spec_l23Search_try.calls (k : Nat) : ∀ (gi0 : Nat) (A0_0 : Option Addr) (c0_0 : Nat) (l0_0 : List (S58)) (A0_1 : Option Addr) (c0_1 : Nat) (l0_1 : List (S124)) (P0_2_ : Nat → Prop) (u9000_ : Value) (l0_2 : List Int) (a0_3 : Int) (a0_4 : Int) (a0_5 : Bool) (A1 : Option Addr) (c1 : Nat) (l1 : List Int) (r1 : List Int) (r2 : Int) (r3 : Int) (r4 : Bool) (w0 w : World) (hB : Below w0.heap.size w0 w) (hbk0 : w.heap[gi0]? = some (.cells #[.slice A0_0 l0_0.length c0_0, .slice A0_1 l0_1.length c0_1, u9000_, .int .i64 a0_3, .int .i64 a0_4, .bool a0_5] 136 (0, 0))) (hge0 : w0.heap.size ≤ gi0) (hr0_0 : ∀ W_, Kept w W_ (fun k_ => (P0_2_ k_) ∨ k_ = gi0) → Kd.C k58 W_ A0_0 l0_0.length l0_0) (hc0_0 : l0_0.length ≤ c0_0) (hr0_1 : ∀ W_, Kept w W_ (fun k_ => (P0_2_ k_) ∨ k_ = gi0) → Kd.C k124 W_ A0_1 l0_1.length l0_1) (hc0_1 : l0_1.length ≤ c0_1) (ho0_2 : Kd.R (Kd.int .i64) 3 w w0.heap.size P0_2_ u9000_ l0_2) (hr1 : ∀ W_, Kept w W_ (fun k_ => (P0_2_ k_) ∨ k_ = gi0) → Kd.C (Kd.int .i64) W_ A1 l1.length l1) (hc1 : l1.length ≤ c1) (h : spec_l23Search_try.f k l0_0 l0_1 l0_2 a0_3 a0_4 a0_5 l1 = some (r1, r2, r3, r4)),
  Calls Try.prog 91 #[.pointer (some ⟨gi0, 0, none⟩), .slice A1 l1.length c1] w fun e w' => ∃ v0_ : Value, e = .returned (.tuple #[]) ∧ Kd.R (Kd.int .i64) 3 w' w0.heap.size (fun k_ => (P0_2_ k_ ∨ w.heap.size ≤ k_)) v0_ r1 ∧ w'.heap[gi0]? = some (.cells #[.slice A0_0 l0_0.length c0_0, .slice A0_1 l0_1.length c0_1, v0_, .int .i64 r2, .int .i64 r3, .bool r4] 136 (0, 0)) ∧ Below w0.heap.size w0 w' ∧ Kept w w' (fun k_ => (P0_2_ k_) ∨ k_ = gi0) := by
 induction k using Nat.strongRecOn with
 | _ k ih =>
 intro gi0 A0_0 c0_0 l0_0 A0_1 c0_1 l0_1 P0_2_ u9000_ l0_2 a0_3 a0_4 a0_5 A1 c1 l1 r1 r2 r3 r4 w0 w hB hbk0 hge0 hr0_0 hc0_0 hr0_1 hc0_1 ho0_2 hr1 hc1 h
 cases k with
 | zero => exact absurd h (by simp [spec_l23Search_try.f])
 | succ k =>
 simp only [spec_l23Search_try.f] at h
 have hu52 := Try.underlying52
 have hu58 := Try.underlying58
 have hu124 := Try.underlying124
 obtain ⟨HR0_0, HC0_0, HR0_1, HC0_1, HO0_2, HR1, HC1, BK0, GE0, HK, HW0, HB⟩ := zD12 hr0_0 hc0_0 hr0_1 hc0_1 (show Kd.R (Kd.int .i64) 3 w w0.heap.size (fun k_ => (P0_2_ k_ ∨ w.heap.size ≤ k_)) u9000_ l0_2 from zs ho0_2 (fun k_ hk => (.inl hk))) hr1 hc1 hbk0 hge0 (Kept.refl w (fun k_ => (P0_2_ k_) ∨ k_ = gi0)) hB.size hB
 clear hr0_0 hc0_0 hr0_1 hc0_1 hr1 hc1 hbk0 hge0 hB
 have H : (if (l1.length : Int) = (l0_1.length : Int) then ((spec_SourceOf.f k l0_0 l0_1 l1).bind fun bt348 => (if a0_5 = true then (if bt348.2.2.1 < a0_4 then (some (bt348.1, bt348.2.1, bt348.2.2.1, true)) else (if bt348.2.2.1 = a0_4 then (if bt348.2.1 < a0_3 then (some (bt348.1, bt348.2.1, bt348.2.2.1, true)) else (some (l0_2, a0_3, a0_4, a0_5))) else (some (l0_2, a0_3, a0_4, a0_5)))) else (some (bt348.1, bt348.2.1, bt348.2.2.1, true)))) else (spec_l23Search_try.l0 k l1 0 l0_0 l0_1 l0_2 a0_3 a0_4 a0_5)) = some (r1, r2, r3, r4) := h
 clear h
 by_cases c3 : (l1.length : Int) = (l0_1.length : Int)
 rotate_left
 ·rw [if_neg c3] at H
  have c3b0 : ((l1.length : Int) == (l0_1.length : Int)) = false := beq_eq_false_iff_ne.mpr c3
  have c3b1 : ((l1.length : Int) != (l0_1.length : Int)) = true := bne_iff_ne.mpr c3
  have c3b2 : (l1.length == l0_1.length) = false := by first | simpa using c3 | (simp at c3 ⊢; omega)
  have H' := za H
  clear H
  obtain ⟨hcz73_0, hcz73_1, hcz73_2, hcz73_3, hcz73_4, hcz73_5, hfz73_0, hfz73_1, hfz73_2, hfz73_3, hfz73_4, hfz73_5⟩ := zB6 BK0.out
  go_enter Try.func91, Try.ntmps91
  go_wp2
  go_loopg [6] k (fun kq v6 w' => ∃ (x6_1 : Int) (x1002_1 : List Int) (x1003_1 : Int) (x1004_1 : Int) (x1005_1 : Bool) (u1002 : Value), v6 = .int .i64 x6_1 ∧ Aside0 (spec_l23Search_try.l0 kq l1 x6_1 l0_0 l0_1 x1002_1 x1003_1 x1004_1 x1005_1 = some (r1, r2, r3, r4)) ∧ Aside0 (kq ≤ k) ∧ Aside0 (Kd.R (Kd.int .i64) 3 w' w0.heap.size (fun k_ => (P0_2_ k_ ∨ w.heap.size ≤ k_)) u1002 x1002_1) ∧ Aside0 (w'.heap[gi0]? = some (.cells #[(.slice A0_0 l0_0.length c0_0), (.slice A0_1 l0_1.length c0_1), u1002, .int .i64 x1003_1, .int .i64 x1004_1, .bool x1005_1] 136 (0, 0))) ∧ Aside0 (Kept w w' (fun k_ => (P0_2_ k_) ∨ k_ = gi0)) ∧ Aside0 (Below w0.heap.size w0 w'))
  case atStart => exact ⟨(0), (l0_2), (a0_3), (a0_4), (a0_5), (u9000_), zG127, H', ⟨Nat.le_refl _⟩, ⟨by (with_reducible repeat (first | apply zj | apply zk | apply zl)); exact HO0_2.out⟩, ⟨zH105⟩, ⟨zH43⟩, ⟨zH86⟩⟩
  case round =>
   clear H'
   try clear c1
   try clear c3
   try clear c3b0
   try clear c3b1
   try clear c3b2
   try clear hcz73_0
   try clear hcz73_1
   try clear hcz73_2
   try clear hcz73_3
   try clear hcz73_4
   try clear hcz73_5
   try clear hfz73_0
   try clear hfz73_1
   try clear hfz73_2
   try clear hfz73_3
   try clear hfz73_4
   try clear hfz73_5
   obtain ⟨x6_1, x1002_1, x1003_1, x1004_1, x1005_1, u1002, rfl, HA, HK1, HO_1002, BK0, HK, HB⟩ := hrel
   cases gk with
   | zero => exact absurd HA.out (by simp [spec_l23Search_try.l0])
   | succ k1 =>
    have H := HA.out
    clear HA
    simp only [spec_l23Search_try.l0] at H
    by_cases c74 : x6_1 < (l0_0.length : Int)
    rotate_left
    ·rw [if_neg c74] at H
     have c74b0 := decide_eq_false c74
     clear c74
     simp only [Option.some.injEq, Prod.mk.injEq] at H
     obtain ⟨rfl, rfl, rfl, rfl⟩ := H
     obtain ⟨hcz96_0, hcz96_1, hcz96_2, hcz96_3, hcz96_4, hcz96_5, hfz96_0, hfz96_1, hfz96_2, hfz96_3, hfz96_4, hfz96_5⟩ := zB6 BK0.out
     go_wp2
     first | go_end0 | ((try simp only [Exit.inBlock, Exit.then]); refine bodyPost_ret (results_none rfl _ _ _) rfl ?_)
     exact ⟨_, zH111, by (with_reducible repeat (first | apply zj | apply zk | apply zl)); exact HO_1002.out, zG112, zH86, zH43⟩

    rw [if_pos c74] at H
    have c74b0 := decide_eq_true c74
    clear c74
    by_cases c75 : 0 ≤ x6_1
    rotate_left
    ·rw [if_neg c75] at H
     exact absurd H (by simp)
    rw [if_pos c75] at H
    have c75b0 := decide_eq_true c75
    clear c75
    by_cases c76 : 0 ≤ (l1.length : Int)
    rotate_left
    ·rw [if_neg c76] at H
     exact absurd H (by simp)
    rw [if_pos c76] at H
    have c76b0 := decide_eq_true c76
    have c76b1 : decide (0 ≤ l1.length) = true := decide_eq_true (by omega)
    clear c76
    by_cases c77 : (l1.length : Int) < (l0_1.length : Int)
    rotate_left
    ·rw [if_neg c77] at H
     exact absurd H (by simp)
    rw [if_pos c77] at H
    have c77b0 := decide_eq_true c77
    have c77b1 : decide (l1.length < l0_1.length) = true := decide_eq_true (Int.ofNat_lt.mp c77)
    clear c77
    replace H := Option.bind_eq_some_iff.mp H
    obtain ⟨t357, A780, H⟩ := H
    replace H : (if t357 = true then ((some (([] : List Int) : List Int)).bind fun y358 => (if y358.length + l1.length < 17592186044416 then ((some (y358 ++ l1 : List Int)).bind fun y361 => (if y361.length < 17592186044416 then ((spec_l23Search_try.f k1 l0_0 l0_1 x1002_1 x1003_1 x1004_1 x1005_1 (y361 ++ [x6_1])).bind fun bt367 => (spec_l23Search_try.l0 k1 l1 (wrap64 (x6_1 + 1)) l0_0 l0_1 bt367.1 bt367.2.1 bt367.2.2.1 bt367.2.2.2)) else (none))) else (none))) else (spec_l23Search_try.l0 k1 l1 (wrap64 (x6_1 + 1)) l0_0 l0_1 x1002_1 x1003_1 x1004_1 x1005_1)) = some (r1, r2, r3, r4) := H
    have A78 := za A780
    clear A780
    by_cases c79 : t357 = true
    rotate_left
    ·replace c79 := Bool.eq_false_iff.mpr c79
     subst c79
     have H1 : (spec_l23Search_try.l0 k1 l1 (wrap64 (x6_1 + 1)) l0_0 l0_1 x1002_1 x1003_1 x1004_1 x1005_1) = some (r1, r2, r3, r4) := by rw [if_neg (show ¬ (false = true) by decide)] at H; exact H
     clear H
     have H := H1
     clear H1
     have H' := za H
     clear H
     obtain ⟨hcz93_0, hcz93_1, hcz93_2, hcz93_3, hcz93_4, hcz93_5, hfz93_0, hfz93_1, hfz93_2, hfz93_3, hfz93_4, hfz93_5⟩ := zB6 BK0.out
     try go_wp2
     obtain ⟨n0_, n1_, n2_, n3_⟩ := zD4 (zl HO_1002.out) (zd BK0.out) (Kept.drew HK.out) (zg HB.out)
     clear HO_1002 BK0 HK HB
     have HO_1002 := n0_
     have BK0 := n1_
     have HK := n2_
     have HB := n3_
     clear n0_ n1_ n2_ n3_
     have p355 : 0 ≤ (x6_1 : Int) := zO
     have q355 : x6_1 < (l0_0.length : Int) := zO
     obtain ⟨ad355, A355_2, c355_2, e355, hx355_0, hx355_1, hx355_2, hl355_2, hi355_2⟩ := at_T58 (zah HR0_0.out HK.out) x6_1 p355 q355
     have hw355_2 := hx355_2
     have hw355_1 := hx355_1
     have hw355_0 := hx355_0
     cases e355
     obtain ⟨HR355_2, HC355_2⟩ := zD2 hi355_2 hl355_2
     clear hi355_2 hl355_2
     replace p355 := eq_true p355
     replace q355 := eq_true q355
     have p356 : 0 ≤ ((l1.length : Int) : Int) := zO
     have q356 : (l1.length : Int) < (l0_1.length : Int) := zO
     obtain ⟨ad356, e356, hx356_0, hx356_1⟩ := at_T124 (zah HR0_1.out HK.out) (l1.length : Int) p356 q356
     have hw356_1 := hx356_1
     (try simp only [Go.IntWalk.toNatUp] at hw356_1)
     have hw356_0 := hx356_0
     (try simp only [Go.IntWalk.toNatUp] at hw356_0)
     cases e356
     (try simp only [Go.IntWalk.toNatUp] at hx356_0)
     (try simp only [Go.IntWalk.toNatUp] at hx356_1)
     replace p356 := eq_true p356
     replace q356 := eq_true q356
     refine start_ (n := 16) (S := fun w' => w'.cell? ⟨gi0, 0, none⟩ = some (.slice (some ad355) l0_0.length c0_0) ∧ w'.cell? ⟨gi0, 1, none⟩ = some (.slice (some ad356) l0_1.length c0_1) ∧ w'.cell? ⟨gi0, 2, none⟩ = some (u1002) ∧ w'.cell? ⟨gi0, 3, none⟩ = some (.int .i64 x1003_1) ∧ w'.cell? ⟨gi0, 4, none⟩ = some (.int .i64 x1004_1) ∧ w'.cell? ⟨gi0, 5, none⟩ = some (.bool x1005_1) ∧ w'.cell? (ad355.add ((x6_1).toNat * 3)) = some (.string ((rd_T58 l0_0 x6_1).f0)) ∧ w'.cell? ⟨(ad355.add ((x6_1).toNat * 3)).block, (ad355.add ((x6_1).toNat * 3)).off + 1, none⟩ = some (.int .i64 ((rd_T58 l0_0 x6_1).f1)) ∧ w'.cell? ⟨(ad355.add ((x6_1).toNat * 3)).block, (ad355.add ((x6_1).toNat * 3)).off + 2, none⟩ = some (.slice A355_2 ((rd_T58 l0_0 x6_1).f2).length c355_2) ∧ w'.cell? (ad356.add (l1.length * 2)) = some (.string ((rd_T124 l0_1 (l1.length : Int)).f0)) ∧ w'.cell? ⟨(ad356.add (l1.length * 2)).block, (ad356.add (l1.length * 2)).off + 1, none⟩ = some (.int .i64 ((rd_T124 l0_1 (l1.length : Int)).f1))) (ds := []) b13A1 zG128 rfl rfl ⟨(zi BK0.out 0).trans rfl, (zi BK0.out 1).trans rfl, (zi BK0.out 2).trans rfl, (zi BK0.out 3).trans rfl, (zi BK0.out 4).trans rfl, (zi BK0.out 5).trans rfl, hx355_0, hx355_1, hx355_2, hx356_0, hx356_1⟩ (fun hHeld => ?_); refine with_tabW spec_l23Search_try.tab8 spec_l23Search_try.bits8 (fun HT_ HW_ => ?_)
     generalize wr.drew = w94 at HO_1002 BK0 HK HB HR355_2 hx355_0 hx355_1 hx355_2 hx356_0 hx356_1 hHeld ⊢
     refine zP 0 79 b13A2 HT_ ?_
     refine zP 1 80 b13A3 HT_ ?_
     refine zP 2 81 b13A4 HT_ ?_
     refine zP 4 83 b13A5 HT_ ?_
     refine zP 7 86 b13A65 HT_ ?_
     refine zP 8 87 b13A66 HT_ ?_
     refine zP 9 88 b13A67 HT_ ?_
     refine zP 11 90 b13A68 HT_ ?_
     refine zP 12 91 b13A69 HT_ ?_
     refine zQ 3 82 b13A70 HT_ HW_ hHeld ?_
     refine zP 5 84 b13A71 HT_ ?_
     refine zQ 6 85 b13A72 HT_ HW_ hHeld ?_
     refine zQ 10 89 b13A6 HT_ HW_ hHeld ?_
     refine zP 13 92 b13A0 HT_ ?_
     refine zQ 14 93 b13A7 HT_ HW_ hHeld ?_
     refine one_ (i := 15) (N := some 94) b13A8 rfl rfl (one_of HT_.out zG128) zG129 (fun K hK => ?_)
     refine goes_ Try.func136 zG128 rfl #[.agg #[.string ((rd_T58 l0_0 x6_1).f0), .int .i64 ((rd_T58 l0_0 x6_1).f1), .slice A355_2 ((rd_T58 l0_0 x6_1).f2).length c355_2], .agg #[.string ((rd_T124 l0_1 (l1.length : Int)).f0), .int .i64 ((rd_T124 l0_1 (l1.length : Int)).f1)]] (by rfl) rfl rfl zG97 ?_
     with_reducible refine (spec_l23Has.calls k1 ((rd_T58 l0_0 x6_1).f0) ((rd_T58 l0_0 x6_1).f1) _ _ ((rd_T58 l0_0 x6_1).f2) ((rd_T124 l0_1 (l1.length : Int)).f0) ((rd_T124 l0_1 (l1.length : Int)).f1) false _ ?side1 ?side2 A78.out).mono ?_
     (case side1 => exact zH17)
     (case side2 => exact HC355_2.out)
     rintro e w95 ⟨rfl, hb⟩
     have HS6_ := (hb.cell (zn _ _ (hHeld.2.2.2.2.2.2.1))).trans (hHeld.2.2.2.2.2.2.1)
     have HS7_ := (hb.cell (zn _ _ (hHeld.2.2.2.2.2.2.2.1))).trans (hHeld.2.2.2.2.2.2.2.1)
     have HS8_ := (hb.cell (zn _ _ (hHeld.2.2.2.2.2.2.2.2.1))).trans (hHeld.2.2.2.2.2.2.2.2.1)
     have HS9_ := (hb.cell (zn _ _ (hHeld.2.2.2.2.2.2.2.2.2.1))).trans (hHeld.2.2.2.2.2.2.2.2.2.1)
     have HS10_ := (hb.cell (zn _ _ (hHeld.2.2.2.2.2.2.2.2.2.2))).trans (hHeld.2.2.2.2.2.2.2.2.2.2)
     refine ⟨_, rfl, ?_⟩
     obtain ⟨n0_, n1_, n2_, n3_, n4_⟩ := zD5 (zv zK240 hb) (zp (g := gi0) (o := .cells #[.slice (some ad355) l0_0.length c0_0, .slice (some ad356) l0_1.length c0_1, u1002, .int .i64 x1003_1, .int .i64 x1004_1, .bool x1005_1] 136 (0, 0)) zG112 hb) (zai zK205 hb) (Kept.below (S := (fun k_ => (P0_2_ k_) ∨ k_ = gi0)) zG93 hb) (zu zG101 hb)
     clear HO_1002 BK0 HR355_2 HK HB
     have HO_1002 := n0_
     have BK0 := n1_
     have HR355_2 := n2_
     have HK := n3_
     have HB := n4_
     clear n0_ n1_ n2_ n3_ n4_
     (try clear hb)
     (try clear hb2)
     (try clear hk)
     (try clear hi)
     refine hK.out _ _ ⟨(zi BK0.out 0).trans rfl, (zi BK0.out 1).trans rfl, (zi BK0.out 2).trans rfl, (zi BK0.out 3).trans rfl, (zi BK0.out 4).trans rfl, (zi BK0.out 5).trans rfl, HS6_, HS7_, HS8_, HS9_, HS10_⟩ (fun hHeld => ?_)
     clear hK K
     refine norm_ (a' := ?_) ?_ ?_
     rotate_left
     ·show Act.put _ (some 94) _ = _
      simp only [Act.put, List.setIfInBounds_toArray, List.set_cons_zero, List.set_cons_succ, i64_w, i32_w]
      rfl
     refine done_ (done_of HT_.out zG128) ?_
     try go_wp2
     go_roundg k1
     case measure => have := HK1.out; omega
     case rel => exact ⟨(wrap64 (x6_1 + 1)), (x1002_1), (x1003_1), (x1004_1), (x1005_1), (u1002), zG127, H', ⟨zH124⟩, ⟨by (with_reducible repeat (first | apply zj | apply zk | apply zl)); exact HO_1002.out⟩, ⟨zH105⟩, ⟨zH43⟩, ⟨zH86⟩⟩
    subst c79
    have H1 : ((some (([] : List Int) : List Int)).bind fun y358 => (if y358.length + l1.length < 17592186044416 then ((some (y358 ++ l1 : List Int)).bind fun y361 => (if y361.length < 17592186044416 then ((spec_l23Search_try.f k1 l0_0 l0_1 x1002_1 x1003_1 x1004_1 x1005_1 (y361 ++ [x6_1])).bind fun bt367 => (spec_l23Search_try.l0 k1 l1 (wrap64 (x6_1 + 1)) l0_0 l0_1 bt367.1 bt367.2.1 bt367.2.2.1 bt367.2.2.2)) else (none))) else (none))) = some (r1, r2, r3, r4) := by rw [if_pos rfl] at H; exact H
    clear H
    have H := H1
    clear H1
    obtain ⟨y358, hy358⟩ : ∃ y_ : List Int, y_ = (([] : List Int)) := ⟨_, rfl⟩
    replace H : (if y358.length + l1.length < 17592186044416 then ((some (y358 ++ l1 : List Int)).bind fun y361 => (if y361.length < 17592186044416 then ((spec_l23Search_try.f k1 l0_0 l0_1 x1002_1 x1003_1 x1004_1 x1005_1 (y361 ++ [x6_1])).bind fun bt367 => (spec_l23Search_try.l0 k1 l1 (wrap64 (x6_1 + 1)) l0_0 l0_1 bt367.1 bt367.2.1 bt367.2.2.1 bt367.2.2.2)) else (none))) else (none)) = some (r1, r2, r3, r4) := by first | (rw [hy358]; with_reducible exact H) | (have H2_ := (Option.bind_some _ _).symm.trans H; rw [hy358]; with_reducible exact H2_) | (have H2_ := (Option.bind_some _ _).symm.trans H; with_reducible exact H2_) | with_reducible exact H | (rw [hy358]; exact H) | exact H
    have Ny358 := za hy358
    clear hy358
    by_cases c80 : y358.length + l1.length < 17592186044416
    rotate_left
    ·rw [if_neg c80] at H
     exact absurd H (by simp)
    rw [if_pos c80] at H
    have LMc80 := za c80
    clear c80
    obtain ⟨y361, hy361⟩ : ∃ y_ : List Int, y_ = (y358 ++ l1) := ⟨_, rfl⟩
    replace H : (if y361.length < 17592186044416 then ((spec_l23Search_try.f k1 l0_0 l0_1 x1002_1 x1003_1 x1004_1 x1005_1 (y361 ++ [x6_1])).bind fun bt367 => (spec_l23Search_try.l0 k1 l1 (wrap64 (x6_1 + 1)) l0_0 l0_1 bt367.1 bt367.2.1 bt367.2.2.1 bt367.2.2.2)) else (none)) = some (r1, r2, r3, r4) := by first | (rw [hy361]; with_reducible exact H) | (have H2_ := (Option.bind_some _ _).symm.trans H; rw [hy361]; with_reducible exact H2_) | (have H2_ := (Option.bind_some _ _).symm.trans H; with_reducible exact H2_) | with_reducible exact H | (rw [hy361]; exact H) | exact H
    have Ny361 := za hy361
    clear hy361
    by_cases c81 : y361.length < 17592186044416
    rotate_left
    ·rw [if_neg c81] at H
     exact absurd H (by simp)
    rw [if_pos c81] at H
    have LMc81 := za c81
    clear c81
    obtain ⟨y364, hy364⟩ : ∃ y_ : List Int, y_ = (y361 ++ [x6_1]) := ⟨_, rfl⟩
    replace H : ((spec_l23Search_try.f k1 l0_0 l0_1 x1002_1 x1003_1 x1004_1 x1005_1 y364).bind fun bt367 => (spec_l23Search_try.l0 k1 l1 (wrap64 (x6_1 + 1)) l0_0 l0_1 bt367.1 bt367.2.1 bt367.2.2.1 bt367.2.2.2)) = some (r1, r2, r3, r4) := by first | (rw [hy364]; with_reducible exact H) | (have H2_ := (Option.bind_some _ _).symm.trans H; rw [hy364]; with_reducible exact H2_) | (have H2_ := (Option.bind_some _ _).symm.trans H; with_reducible exact H2_) | with_reducible exact H | (rw [hy364]; exact H) | exact H
    have Ny364 := za hy364
    clear hy364
    replace H := Option.bind_eq_some_iff.mp H
    obtain ⟨⟨t367, t370, t371, t372⟩, A820, H⟩ := H
    replace H : (spec_l23Search_try.l0 k1 l1 (wrap64 (x6_1 + 1)) l0_0 l0_1 t367 t370 t371 t372) = some (r1, r2, r3, r4) := H
    have A82 := za A820
    clear A820
    have H' := za H
    clear H
    obtain ⟨hcz83_0, hcz83_1, hcz83_2, hcz83_3, hcz83_4, hcz83_5, hfz83_0, hfz83_1, hfz83_2, hfz83_3, hfz83_4, hfz83_5⟩ := zB6 BK0.out
    try go_wp2
    obtain ⟨n0_, n1_, n2_, n3_⟩ := zD4 (zl HO_1002.out) (zd BK0.out) (Kept.drew HK.out) (zg HB.out)
    clear HO_1002 BK0 HK HB
    have HO_1002 := n0_
    have BK0 := n1_
    have HK := n2_
    have HB := n3_
    clear n0_ n1_ n2_ n3_
    have p355 : 0 ≤ (x6_1 : Int) := zO
    have q355 : x6_1 < (l0_0.length : Int) := zO
    obtain ⟨ad355, A355_2, c355_2, e355, hx355_0, hx355_1, hx355_2, hl355_2, hi355_2⟩ := at_T58 (zah HR0_0.out HK.out) x6_1 p355 q355
    have hw355_2 := hx355_2
    have hw355_1 := hx355_1
    have hw355_0 := hx355_0
    cases e355
    obtain ⟨HR355_2, HC355_2⟩ := zD2 hi355_2 hl355_2
    clear hi355_2 hl355_2
    replace p355 := eq_true p355
    replace q355 := eq_true q355
    have p356 : 0 ≤ ((l1.length : Int) : Int) := zO
    have q356 : (l1.length : Int) < (l0_1.length : Int) := zO
    obtain ⟨ad356, e356, hx356_0, hx356_1⟩ := at_T124 (zah HR0_1.out HK.out) (l1.length : Int) p356 q356
    have hw356_1 := hx356_1
    (try simp only [Go.IntWalk.toNatUp] at hw356_1)
    have hw356_0 := hx356_0
    (try simp only [Go.IntWalk.toNatUp] at hw356_0)
    cases e356
    (try simp only [Go.IntWalk.toNatUp] at hx356_0)
    (try simp only [Go.IntWalk.toNatUp] at hx356_1)
    replace p356 := eq_true p356
    replace q356 := eq_true q356
    refine start_ (n := 16) (S := fun w' => w'.cell? ⟨gi0, 0, none⟩ = some (.slice (some ad355) l0_0.length c0_0) ∧ w'.cell? ⟨gi0, 1, none⟩ = some (.slice (some ad356) l0_1.length c0_1) ∧ w'.cell? ⟨gi0, 2, none⟩ = some (u1002) ∧ w'.cell? ⟨gi0, 3, none⟩ = some (.int .i64 x1003_1) ∧ w'.cell? ⟨gi0, 4, none⟩ = some (.int .i64 x1004_1) ∧ w'.cell? ⟨gi0, 5, none⟩ = some (.bool x1005_1) ∧ w'.cell? (ad355.add ((x6_1).toNat * 3)) = some (.string ((rd_T58 l0_0 x6_1).f0)) ∧ w'.cell? ⟨(ad355.add ((x6_1).toNat * 3)).block, (ad355.add ((x6_1).toNat * 3)).off + 1, none⟩ = some (.int .i64 ((rd_T58 l0_0 x6_1).f1)) ∧ w'.cell? ⟨(ad355.add ((x6_1).toNat * 3)).block, (ad355.add ((x6_1).toNat * 3)).off + 2, none⟩ = some (.slice A355_2 ((rd_T58 l0_0 x6_1).f2).length c355_2) ∧ w'.cell? (ad356.add (l1.length * 2)) = some (.string ((rd_T124 l0_1 (l1.length : Int)).f0)) ∧ w'.cell? ⟨(ad356.add (l1.length * 2)).block, (ad356.add (l1.length * 2)).off + 1, none⟩ = some (.int .i64 ((rd_T124 l0_1 (l1.length : Int)).f1))) (ds := []) b13A1 zG128 rfl rfl ⟨(zi BK0.out 0).trans rfl, (zi BK0.out 1).trans rfl, (zi BK0.out 2).trans rfl, (zi BK0.out 3).trans rfl, (zi BK0.out 4).trans rfl, (zi BK0.out 5).trans rfl, hx355_0, hx355_1, hx355_2, hx356_0, hx356_1⟩ (fun hHeld => ?_); refine with_tabW spec_l23Search_try.tab8 spec_l23Search_try.bits8 (fun HT_ HW_ => ?_)
    generalize wr.drew = w84 at HO_1002 BK0 HK HB HR355_2 hx355_0 hx355_1 hx355_2 hx356_0 hx356_1 hHeld ⊢
    refine zP 0 79 b13A2 HT_ ?_
    refine zP 1 80 b13A3 HT_ ?_
    refine zP 2 81 b13A4 HT_ ?_
    refine zP 4 83 b13A5 HT_ ?_
    refine zP 7 86 b13A65 HT_ ?_
    refine zP 8 87 b13A66 HT_ ?_
    refine zP 9 88 b13A67 HT_ ?_
    refine zP 11 90 b13A68 HT_ ?_
    refine zP 12 91 b13A69 HT_ ?_
    refine zQ 3 82 b13A70 HT_ HW_ hHeld ?_
    refine zP 5 84 b13A71 HT_ ?_
    refine zQ 6 85 b13A72 HT_ HW_ hHeld ?_
    refine zQ 10 89 b13A6 HT_ HW_ hHeld ?_
    refine zP 13 92 b13A0 HT_ ?_
    refine zQ 14 93 b13A7 HT_ HW_ hHeld ?_
    refine one_ (i := 15) (N := some 94) b13A8 rfl rfl (one_of HT_.out zG128) zG129 (fun K hK => ?_)
    refine goes_ Try.func136 zG128 rfl #[.agg #[.string ((rd_T58 l0_0 x6_1).f0), .int .i64 ((rd_T58 l0_0 x6_1).f1), .slice A355_2 ((rd_T58 l0_0 x6_1).f2).length c355_2], .agg #[.string ((rd_T124 l0_1 (l1.length : Int)).f0), .int .i64 ((rd_T124 l0_1 (l1.length : Int)).f1)]] (by rfl) rfl rfl zG97 ?_
    with_reducible refine (spec_l23Has.calls k1 ((rd_T58 l0_0 x6_1).f0) ((rd_T58 l0_0 x6_1).f1) _ _ ((rd_T58 l0_0 x6_1).f2) ((rd_T124 l0_1 (l1.length : Int)).f0) ((rd_T124 l0_1 (l1.length : Int)).f1) true _ ?side1 ?side2 A78.out).mono ?_
    (case side1 => exact zH17)
    (case side2 => exact HC355_2.out)
    rintro e w85 ⟨rfl, hb⟩
    have HS6_ := (hb.cell (zn _ _ (hHeld.2.2.2.2.2.2.1))).trans (hHeld.2.2.2.2.2.2.1)
    have HS7_ := (hb.cell (zn _ _ (hHeld.2.2.2.2.2.2.2.1))).trans (hHeld.2.2.2.2.2.2.2.1)
    have HS8_ := (hb.cell (zn _ _ (hHeld.2.2.2.2.2.2.2.2.1))).trans (hHeld.2.2.2.2.2.2.2.2.1)
    have HS9_ := (hb.cell (zn _ _ (hHeld.2.2.2.2.2.2.2.2.2.1))).trans (hHeld.2.2.2.2.2.2.2.2.2.1)
    have HS10_ := (hb.cell (zn _ _ (hHeld.2.2.2.2.2.2.2.2.2.2))).trans (hHeld.2.2.2.2.2.2.2.2.2.2)
    refine ⟨_, rfl, ?_⟩
    obtain ⟨n0_, n1_, n2_, n3_, n4_⟩ := zD5 (zv zK240 hb) (zp (g := gi0) (o := .cells #[.slice (some ad355) l0_0.length c0_0, .slice (some ad356) l0_1.length c0_1, u1002, .int .i64 x1003_1, .int .i64 x1004_1, .bool x1005_1] 136 (0, 0)) zG112 hb) (zai zK205 hb) (Kept.below (S := (fun k_ => (P0_2_ k_) ∨ k_ = gi0)) zG93 hb) (zu zG101 hb)
    clear HO_1002 BK0 HR355_2 HK HB
    have HO_1002 := n0_
    have BK0 := n1_
    have HR355_2 := n2_
    have HK := n3_
    have HB := n4_
    clear n0_ n1_ n2_ n3_ n4_
    (try clear hb)
    (try clear hb2)
    (try clear hk)
    (try clear hi)
    refine hK.out _ _ ⟨(zi BK0.out 0).trans rfl, (zi BK0.out 1).trans rfl, (zi BK0.out 2).trans rfl, (zi BK0.out 3).trans rfl, (zi BK0.out 4).trans rfl, (zi BK0.out 5).trans rfl, HS6_, HS7_, HS8_, HS9_, HS10_⟩ (fun hHeld => ?_)
    clear hK K
    refine norm_ (a' := ?_) ?_ ?_
    rotate_left
    ·show Act.put _ (some 94) _ = _
     simp only [Act.put, List.setIfInBounds_toArray, List.set_cons_zero, List.set_cons_succ, i64_w, i32_w]
     rfl
    refine done_ (done_of HT_.out zG128) ?_
    try go_wp2_with (first | ((with_reducible refine gate_dst (N := 96) rfl ?_); refine zbp (Kd.int .i64) _ 3 ?hg (N := 96) ?hd (xs := ([] : List Int)) (inner := []) (ok := fun _ => True) (okp := fun _ => True) ?hr ?hp (fun _ hk => hk) trivial (Below.refl _ _) (Nat.le_refl _) (by simp) ?_; (case hd => rfl); (case hg => rfl); (case hr => exact zH119); (case hp => exact zH126); intro v359 w86 ho87 hb hg_ hnew_; clear hg_ hnew_; (first | rw [← Ny358.out] at ho87 | (simp only [Int.reduceToNat] at ho87; rw [← Ny358.out] at ho87)); have n_ := zA_ (za (zal zK240 (zaj ho87) hb)) (zA_ (za (zam (zap (zbb (M := fun k_ => (P0_2_ k_ ∨ w.heap.size ≤ k_)) ho87 zG87 (fun k_ h_ => .inr h_)) (zaf zK240)) (zq zG101))) (zA_ (za (zp (g := gi0) (o := .cells #[.slice (some ad355) l0_0.length c0_0, .slice (some ad356) l0_1.length c0_1, u1002, .int .i64 x1003_1, .int .i64 x1004_1, .bool x1005_1] 136 (0, 0)) zG112 hb)) (zA_ (za (zai zK205 hb)) (zA_ (za (Kept.below (S := (fun k_ => (P0_2_ k_) ∨ k_ = gi0)) zG93 hb)) (za (zu zG101 hb)))))); clear HO_1002 BK0 HR355_2 HK HB; obtain ⟨HO_1002, HO360, BK0, HR355_2, HK, HB⟩ := n_; clear hb ho87) | ((with_reducible refine gate_builtin (b := .append) (xs := #[.tmp 96, .tmp 97]) rfl ?_); at_builtin; refine Kd.R_append_rows (Kd.int .i64) (w0 := w0) w0.heap.size rfl (.tmp 96) (.tmp 97) 24 3 (.int .i64 0) 8 rfl Try.underlying24 info3 rfl zG129 (by omega) v359 y358 l1 _ _ _ (fun k_ => (P0_2_ k_ ∨ w.heap.size ≤ k_) ∧ some k_ ≠ (u1002 : Value).ownBlock) (fun _ => False) rfl rfl ?aO ?aR (fun _ _ h => h) (fun _ h => h.elim) ?aF ?aB ?aS ?aL ?_; (case aR => exact zah HR1.out zG93); (case aB => exact zG101); (case aF => exact zH47); (case aO => exact (by (with_reducible repeat (first | apply zj | apply zk | apply zl)); exact zs HO360.out (fun _ hk => ⟨hk.1.1, hk.2⟩))); (case aS => exact (zq zG101)); (case aL => have := LMc80.out; omega); intro v362 w88 ho hb hg hat; rw [← Ny361.out] at ho; have n_ := zA_ (za (Kd.R_after (ok := (fun k_ => (P0_2_ k_ ∨ w.heap.size ≤ k_))) zK240 hg hat)) (zA_ (za (zas (g := gi0) (o := .cells #[.slice (some ad355) l0_0.length c0_0, .slice (some ad356) l0_1.length c0_1, u1002, .int .i64 x1003_1, .int .i64 x1004_1, .bool x1005_1] 136 (0, 0)) zG112 hg (zbg HO360.out BK0.out zG129))) (zA_ (za (hb)) (zA_ (za (Kept.of_grown (S := (fun k_ => (P0_2_ k_) ∨ k_ = gi0)) hg zG93 (fun k_ e_ => (Or.imp_left (fun z_ => (Or.inl z_)) ((HO360.out.1 k_ e_).1.1))))) (za (ho))))); clear HO_1002 BK0 HB HK HO360; obtain ⟨HO_1002, BK0, HB, HK, HO363⟩ := n_; clear ho hb hg hat) | ((with_reducible refine gate_builtin (b := .append) (xs := #[.tmp 98, .tmp 100]) rfl ?_); at_builtin; refine Kd.R_append (Kd.int .i64) (w0 := w0) w0.heap.size rfl (.tmp 98) (.tmp 100) 24 3 (.int .i64 0) 8 rfl Try.underlying24 info3 rfl zG129 (by omega) v362 y361 x6_1 [.int .i64 x6_1] (fun k_ => (P0_2_ k_ ∨ w.heap.size ≤ k_) ∧ some k_ ≠ (u1002 : Value).ownBlock) (fun _ => False) rfl rfl ?aP (fun _ hk => hk.elim) ?aF ?aO ?aB ?aS ?aL ?_; (case aP => exact rfl); (case aB => exact zG101); (case aF => exact zH47); (case aO => exact (by (with_reducible repeat (first | apply zj | apply zk | apply zl)); exact HO363.out)); (case aS => exact (zq zG101)); (case aL => have := LMc81.out; omega); intro v365 w89 ho hb hg hat; rw [← Ny364.out] at ho; have n_ := zA_ (za (Kd.R_after (ok := (fun k_ => (P0_2_ k_ ∨ w.heap.size ≤ k_))) zK240 hg hat)) (zA_ (za (zas (g := gi0) (o := .cells #[.slice (some ad355) l0_0.length c0_0, .slice (some ad356) l0_1.length c0_1, u1002, .int .i64 x1003_1, .int .i64 x1004_1, .bool x1005_1] 136 (0, 0)) zG112 hg (zbg HO363.out BK0.out zG129))) (zA_ (za (hb)) (zA_ (za (Kept.of_grown (S := (fun k_ => (P0_2_ k_) ∨ k_ = gi0)) hg zG93 (fun k_ e_ => (Or.imp_left (fun z_ => (Or.inl z_)) ((HO363.out.1 k_ e_).1))))) (za (ho))))); clear HO_1002 BK0 HB HK HO363; obtain ⟨HO_1002, BK0, HB, HK, HO366⟩ := n_; clear ho hb hg hat; obtain ⟨Ao90, co90, eo90⟩ := zan HO_1002.out; subst eo90; obtain ⟨Ao91, co91, eo91⟩ := zan HO366.out; subst eo91) | ((with_reducible refine gate_callee (f := 91) rfl ?_); refine goesL_ (some 102) rfl rfl Try.func91 zG128 rfl #[.pointer (some ⟨gi0, 0, none⟩), .slice Ao91 y364.length co91] rfl zG97 ?_; (with_reducible refine (ih k1 (by have := HK1.out; omega) gi0 (some ad355) c0_0 l0_0 (some ad356) c0_1 l0_1 (fun k_ => some k_ = (.slice Ao90 x1002_1.length co90 : Value).ownBlock) (.slice Ao90 x1002_1.length co90) x1002_1 x1003_1 x1004_1 x1005_1 _ _ y364 t367 t370 t371 t372 w0 _ ?side1 ?side2 ?side3 ?side4 ?side5 ?side6 ?side7 ?side8 ?side9 ?side10 A82.out).mono ?_); (case side1 => repeat (first | (with_reducible first | exact HB.out | apply zh | apply zf | apply zg | refine ze ?_ GE0.out) | exact HB.out)); (case side2 => exact zG112); (case side3 => exact GE0.out); (case side4 => exact zbw HR0_0.out zG93 (fun k_ hs_ => Or.elim hs_ (fun hs_ => (fun e_ => (Or.imp_left (fun z_ => (Or.inl z_)) ((HO_1002.out.1 k_ e_.symm).1))) hs_) (fun e_ => .inl (Or.inr e_)))); (case side5 => exact HC0_0.out); (case side6 => exact zbw HR0_1.out zG93 (fun k_ hs_ => Or.elim hs_ (fun hs_ => (fun e_ => (Or.imp_left (fun z_ => (Or.inl z_)) ((HO_1002.out.1 k_ e_.symm).1))) hs_) (fun e_ => .inl (Or.inr e_)))); (case side7 => exact HC0_1.out); (case side8 => exact Kd.R_tight rfl HO_1002.out); (case side9 => exact zby ((zt HO366.out BK0.out zG129)) (fun k_ hk_ hs_ => Or.elim hs_ (fun hs_ => (hk_.1.2) hs_) (fun e_ => (hk_.2) e_))); (case side10 => exact (zae HO366.out).2.1); rintro e w92 ⟨v368, rfl, ho0, hz0, hb, hkp⟩; refine ⟨_, rfl, ?_⟩; have n_ := zA_ (za (hz0)) (zA_ (za (zs (ok' := fun k_ => (P0_2_ k_ ∨ w.heap.size ≤ k_) ∧ some k_ ≠ (v368 : Value).ownBlock) (zcc ((zt HO366.out BK0.out zG129)) hkp (fun k_ hk_ hs_ => Or.elim hs_ (fun hs_ => (hk_.1.2) hs_) (fun e_ => (hk_.2) e_))) (fun k_ hk_ => ⟨hk_.1.1.1, fun e_ => Or.elim (ho0.1 k_ e_.symm) (fun hs_ => hk_.2.1 (Or.inl hs_)) (fun hn_ => Nat.not_le.2 hk_.2.2 hn_)⟩))) (zA_ (za (zs (ok' := fun k_ => (P0_2_ k_ ∨ w.heap.size ≤ k_) ∧ some k_ ≠ (.slice Ao91 y364.length co91 : Value).ownBlock) ho0 (fun k_ hk_ => ⟨Or.elim hk_ (fun hs_ => (HO_1002.out.1 k_ (hs_).symm).1) (fun hn_ => (.inr (Nat.le_trans zG87 hn_))), Or.elim hk_ (fun hs_ => fun e_ => ((((zt HO366.out BK0.out zG129)).1 k_ e_.symm).1.2) hs_) (fun hn_ => (Kd.fresh' (zaf (by (with_reducible repeat (first | apply zj | apply zk | apply zl)); exact HO366.out)) k_ hn_))⟩))) (zA_ (za (Kept.then_ (S := (fun k_ => (P0_2_ k_) ∨ k_ = gi0)) zG93 hkp (fun k_ hs_ => Or.elim hs_ (fun hs_ => (fun e_ => (Or.imp_left (fun z_ => (Or.inl z_)) ((HO_1002.out.1 k_ e_.symm).1))) hs_) (fun e_ => .inl (Or.inr e_))))) (za (hb))))); clear BK0 HO366 HK HB HO_1002; obtain ⟨BK0, HO366, HO369, HK, HB⟩ := n_; (try clear hb); (try clear hkp); (try clear ho0); (try clear hz0)))
    go_roundg k1
    case measure => have := HK1.out; omega
    case rel => exact ⟨(wrap64 (x6_1 + 1)), (t367), (t370), (t371), (t372), (v368), zG127, H', ⟨zH124⟩, ⟨by (with_reducible repeat (first | apply zj | apply zk | apply zl)); exact zs HO369.out (fun _ hk => hk.1)⟩, ⟨zH105⟩, ⟨zH43⟩, ⟨zH86⟩⟩
 rw [if_pos c3] at H
 have c3b0 : ((l1.length : Int) == (l0_1.length : Int)) = true := beq_iff_eq.mpr c3
 have c3b1 : ((l1.length : Int) != (l0_1.length : Int)) = false := bne_eq_false_iff_eq.mpr c3
 have c3b2 : (l1.length == l0_1.length) = true := by first | simpa using c3 | (simp at c3 ⊢; omega)
 clear c3
 replace H := Option.bind_eq_some_iff.mp H
 obtain ⟨⟨t348, t351, t352, t353⟩, A40, H⟩ := H
 replace H : (if a0_5 = true then (if t352 < a0_4 then (some (t348, t351, t352, true)) else (if t352 = a0_4 then (if t351 < a0_3 then (some (t348, t351, t352, true)) else (some (l0_2, a0_3, a0_4, a0_5))) else (some (l0_2, a0_3, a0_4, a0_5)))) else (some (t348, t351, t352, true))) = some (r1, r2, r3, r4) := H
 have A4 := za A40
 clear A40
 by_cases c5 : a0_5 = true
 rotate_left
 ·replace c5 := Bool.eq_false_iff.mpr c5
  subst c5
  have H1 : (some (t348, t351, t352, true)) = some (r1, r2, r3, r4) := by rw [if_neg (show ¬ (false = true) by decide)] at H; exact H
  clear H
  have H := H1
  clear H1
  simp only [Option.some.injEq, Prod.mk.injEq] at H
  obtain ⟨rfl, rfl, rfl, rfl⟩ := H
  obtain ⟨hcz59_0, hcz59_1, hcz59_2, hcz59_3, hcz59_4, hcz59_5, hfz59_0, hfz59_1, hfz59_2, hfz59_3, hfz59_4, hfz59_5⟩ := zB6 BK0.out
  go_enter Try.func91, Try.ntmps91
  try go_wp2
  obtain ⟨n0_, n1_, n2_, n3_⟩ := zD4 (zl HO0_2.out) (zd BK0.out) (Kept.drew HK.out) (zg HB.out)
  clear HO0_2 BK0 HK HB
  have HO0_2 := n0_
  have BK0 := n1_
  have HK := n2_
  have HB := n3_
  clear n0_ n1_ n2_ n3_
  refine start_ (n := 16) (S := fun w' => w'.cell? ⟨gi0, 0, none⟩ = some (.slice A0_0 l0_0.length c0_0) ∧ w'.cell? ⟨gi0, 1, none⟩ = some (.slice A0_1 l0_1.length c0_1) ∧ w'.cell? ⟨gi0, 2, none⟩ = some (u9000_) ∧ w'.cell? ⟨gi0, 3, none⟩ = some (.int .i64 a0_3) ∧ w'.cell? ⟨gi0, 4, none⟩ = some (.int .i64 a0_4) ∧ w'.cell? ⟨gi0, 5, none⟩ = some (.bool false)) (ds := []) b13A1 zG128 rfl rfl ⟨(zi BK0.out 0).trans rfl, (zi BK0.out 1).trans rfl, (zi BK0.out 2).trans rfl, (zi BK0.out 3).trans rfl, (zi BK0.out 4).trans rfl, (zi BK0.out 5).trans rfl⟩ (fun hHeld => ?_); refine with_tabW spec_l23Search_try.tab1 spec_l23Search_try.bits1 (fun HT_ HW_ => ?_)
  generalize w.drew = w60 at HO0_2 BK0 HK HB hHeld ⊢
  refine zP 0 16 b13A2 HT_ ?_
  refine zP 1 17 b13A3 HT_ ?_
  refine zP 2 18 b13A4 HT_ ?_
  refine zP 4 20 b13A5 HT_ ?_
  refine zP 5 21 b13A9 HT_ ?_
  refine zP 6 22 b13A10 HT_ ?_
  refine zP 8 24 b13A11 HT_ ?_
  refine zQ 3 19 b13A12 HT_ HW_ hHeld ?_
  refine zQ 7 23 b13A13 HT_ HW_ hHeld ?_
  refine join_ (σ := Value × Nat) 2 b13A0 (fun s_ => [(25, .tuple #[.agg #[s_.1, .int .i64 t351, .int .i64 t352], .int .i64 t353]), (4, .pointer (some ⟨s_.2, 0, none⟩)), (15, .tuple #[.agg #[s_.1, .int .i64 t351, .int .i64 t352], .int .i64 t353]), (26, .agg #[s_.1, .int .i64 t351, .int .i64 t352]), (27, .int .i64 t353)]) (fun s_ w' => (w'.cell? ⟨gi0, 0, none⟩ = some (.slice A0_0 l0_0.length c0_0) ∧ w'.cell? ⟨gi0, 1, none⟩ = some (.slice A0_1 l0_1.length c0_1) ∧ w'.cell? ⟨gi0, 2, none⟩ = some (u9000_) ∧ w'.cell? ⟨gi0, 3, none⟩ = some (.int .i64 a0_3) ∧ w'.cell? ⟨gi0, 4, none⟩ = some (.int .i64 a0_4) ∧ w'.cell? ⟨gi0, 5, none⟩ = some (.bool false)) ∧ (Kd.R (Kd.int .i64) 3 w' w0.heap.size (fun k_ => (P0_2_ k_ ∨ w.heap.size ≤ k_) ∧ some k_ ≠ (s_.1 : Value).ownBlock) u9000_ l0_2) ∧ (Kd.R (Kd.int .i64) 3 w' w0.heap.size (fun k_ => (P0_2_ k_ ∨ w.heap.size ≤ k_) ∧ some k_ ≠ (u9000_ : Value).ownBlock) s_.1 t348) ∧ (w'.heap[gi0]? = some (.cells #[.slice A0_0 l0_0.length c0_0, .slice A0_1 l0_1.length c0_1, u9000_, .int .i64 a0_3, .int .i64 a0_4, .bool false] 136 (0, 0))) ∧ (w'.heap[s_.2]? = some (.cells #[.slice none 0 0, .int .i64 0, .int .i64 0] 52 (0, 0))) ∧ (w.heap.size ≤ s_.2) ∧ (w0.heap.size ≤ s_.2) ∧ (gi0 ≠ s_.2) ∧ (s_.2 ≠ gi0) ∧ (Kept w w' (fun k_ => (P0_2_ k_) ∨ k_ = gi0)) ∧ (Below w0.heap.size w0 w')) ?_ ?_
  rotate_left
  ·intro hCont
   refine two_ (i := 9) (j := 13) (Ni := some 25) (Nj := some 4) b13A14 b13A15 rfl rfl rfl rfl (two_of HT_.out zG128) zG129 zG129 (fun K hK => ?_) (fun K hK => ?_)
   ·skip
    refine goes_ Try.func135 zG128 rfl #[.slice A0_0 l0_0.length c0_0, .slice A0_1 l0_1.length c0_1, .slice A1 l1.length c1] (by rfl) rfl rfl zG97 ?_
    with_reducible refine (spec_SourceOf.calls k _ _ l0_0 _ _ l0_1 _ _ l1 t348 t351 t352 t353 _ ?side1 ?side2 ?side3 ?side4 ?side5 ?side6 A4.out).mono ?_
    (case side1 => exact zah HR0_0.out zG93)
    (case side2 => exact HC0_0.out)
    (case side3 => exact zah HR0_1.out zG93)
    (case side4 => exact HC0_1.out)
    (case side5 => exact zah HR1.out zG93)
    (case side6 => exact zH127)
    rintro e w61 ⟨v349, rfl, ho0, hb⟩
    refine ⟨_, rfl, ?_⟩
    obtain ⟨n0_, n1_, n2_, n3_, n4_⟩ := zD5 (zal zG123 (zaj ho0) hb) (zam (zap (zbb (M := fun k_ => (P0_2_ k_ ∨ w.heap.size ≤ k_)) ho0 zG87 (fun k_ h_ => .inr h_)) (zaf zG123)) (zq zG101)) (zp (g := gi0) (o := .cells #[.slice A0_0 l0_0.length c0_0, .slice A0_1 l0_1.length c0_1, u9000_, .int .i64 a0_3, .int .i64 a0_4, .bool false] 136 (0, 0)) zG112 hb) (Kept.below (S := (fun k_ => (P0_2_ k_) ∨ k_ = gi0)) zG93 hb) (zu zG101 hb)
    clear HO0_2 BK0 HK HB
    have HO0_2 := n0_
    have HO350 := n1_
    have BK0 := n2_
    have HK := n3_
    have HB := n4_
    clear n0_ n1_ n2_ n3_ n4_
    (try clear hb)
    (try clear hb2)
    (try clear hk)
    (try clear hi)
    (try clear ho0)
    refine hK.out _ _ ⟨(zi BK0.out 0).trans rfl, (zi BK0.out 1).trans rfl, (zi BK0.out 2).trans rfl, (zi BK0.out 3).trans rfl, (zi BK0.out 4).trans rfl, (zi BK0.out 5).trans rfl⟩ (fun hHeld => ?_)
    clear hK K
    refine norm_ (a' := ?_) ?_ ?_
    rotate_left
    ·show Act.put _ (some 25) _ = _
     simp only [Act.put, List.setIfInBounds_toArray, List.set_cons_zero, List.set_cons_succ, i64_w, i32_w]
     rfl
    refine zP 10 15 b13A16 HT_ ?_
    refine zP 11 26 b13A17 HT_ ?_
    refine zP 12 27 b13A6 HT_ ?_
    refine one_ (i := 13) (N := some 4) b13A0 rfl rfl (one_of HT_.out zG128) zG129 (fun K hK => ?_)
    refine box_step ?hg (N := 4) ?hd (cs := #[.slice none 0 0, .int .i64 0, .int .i64 0]) (t := 52) ?hr ?_; (case hd => rfl); (case hg => rfl); (case hr => exact zH119)
    intro gb354 hg w62 hbox hb
    obtain ⟨n0_, n1_, n2_, n3_, n4_, n5_, n6_, n7_, n8_, n9_⟩ := zD10 (zv zG123 hb) (zv zK244 hb) (zp (g := gi0) (o := .cells #[.slice A0_0 l0_0.length c0_0, .slice A0_1 l0_1.length c0_1, u9000_, .int .i64 a0_3, .int .i64 a0_4, .bool false] 136 (0, 0)) zG112 hb) (Kept.below (S := (fun k_ => (P0_2_ k_) ∨ k_ = gi0)) zG93 hb) (zu zG101 hb) (hbox) ((by rw [hg]; exact zG87 : w.heap.size ≤ gb354)) ((by rw [hg]; exact (zq zG101) : w0.heap.size ≤ gb354)) ((by rw [hg]; exact Nat.ne_of_lt (zz (g := gi0) (o := .cells #[.slice A0_0 l0_0.length c0_0, .slice A0_1 l0_1.length c0_1, u9000_, .int .i64 a0_3, .int .i64 a0_4, .bool false] 136 (0, 0)) zG112) : gi0 ≠ gb354)) ((by rw [hg]; exact Nat.ne_of_gt (zz (g := gi0) (o := .cells #[.slice A0_0 l0_0.length c0_0, .slice A0_1 l0_1.length c0_1, u9000_, .int .i64 a0_3, .int .i64 a0_4, .bool false] 136 (0, 0)) zG112) : gb354 ≠ gi0))
    clear HO0_2 HO350 BK0 HK HB
    have HO0_2 := n0_
    have HO350 := n1_
    have BK0 := n2_
    have HK := n3_
    have HB := n4_
    have BK354 := n5_
    have GW354 := n6_
    have GE354 := n7_
    have NB0_354 := n8_
    have NB354_0 := n9_
    clear n0_ n1_ n2_ n3_ n4_ n5_ n6_ n7_ n8_ n9_
    clear hb hbox hg
    refine hK.out _ _ ⟨(zi BK0.out 0).trans rfl, (zi BK0.out 1).trans rfl, (zi BK0.out 2).trans rfl, (zi BK0.out 3).trans rfl, (zi BK0.out 4).trans rfl, (zi BK0.out 5).trans rfl⟩ (fun hHeld => ?_)
    clear hK K
    refine norm_ (a' := ?_) ?_ ?_
    rotate_left
    ·show Act.put _ (some 4) _ = _
     simp only [Act.put, List.setIfInBounds_toArray, List.set_cons_zero, List.set_cons_succ, i64_w, i32_w]
     rfl
    exact norm_ zG113 (hCont (v349, gb354) _ ⟨hHeld, zG123, zK226, zG112, zG103, GW354.out, GE354.out, NB0_354.out, NB354_0.out, zG90, zG96⟩)
   ·skip
    refine box_step ?hg (N := 4) ?hd (cs := #[.slice none 0 0, .int .i64 0, .int .i64 0]) (t := 52) ?hr ?_; (case hd => rfl); (case hg => rfl); (case hr => exact zH119)
    intro gb354 hg w61 hbox hb
    obtain ⟨n0_, n1_, n2_, n3_, n4_, n5_, n6_, n7_, n8_⟩ := zD9 (zv zG123 hb) (zp (g := gi0) (o := .cells #[.slice A0_0 l0_0.length c0_0, .slice A0_1 l0_1.length c0_1, u9000_, .int .i64 a0_3, .int .i64 a0_4, .bool false] 136 (0, 0)) zG112 hb) (Kept.below (S := (fun k_ => (P0_2_ k_) ∨ k_ = gi0)) zG93 hb) (zu zG101 hb) (hbox) ((by rw [hg]; exact zG87 : w.heap.size ≤ gb354)) ((by rw [hg]; exact (zq zG101) : w0.heap.size ≤ gb354)) ((by rw [hg]; exact Nat.ne_of_lt (zz (g := gi0) (o := .cells #[.slice A0_0 l0_0.length c0_0, .slice A0_1 l0_1.length c0_1, u9000_, .int .i64 a0_3, .int .i64 a0_4, .bool false] 136 (0, 0)) zG112) : gi0 ≠ gb354)) ((by rw [hg]; exact Nat.ne_of_gt (zz (g := gi0) (o := .cells #[.slice A0_0 l0_0.length c0_0, .slice A0_1 l0_1.length c0_1, u9000_, .int .i64 a0_3, .int .i64 a0_4, .bool false] 136 (0, 0)) zG112) : gb354 ≠ gi0))
    clear HO0_2 BK0 HK HB
    have HO0_2 := n0_
    have BK0 := n1_
    have HK := n2_
    have HB := n3_
    have BK354 := n4_
    have GW354 := n5_
    have GE354 := n6_
    have NB0_354 := n7_
    have NB354_0 := n8_
    clear n0_ n1_ n2_ n3_ n4_ n5_ n6_ n7_ n8_
    clear hb hbox hg
    refine hK.out _ _ ⟨(zi BK0.out 0).trans rfl, (zi BK0.out 1).trans rfl, (zi BK0.out 2).trans rfl, (zi BK0.out 3).trans rfl, (zi BK0.out 4).trans rfl, (zi BK0.out 5).trans rfl⟩ (fun hHeld => ?_)
    clear hK K
    refine norm_ (a' := ?_) ?_ ?_
    rotate_left
    ·show Act.put _ (some 4) _ = _
     simp only [Act.put, List.setIfInBounds_toArray, List.set_cons_zero, List.set_cons_succ, i64_w, i32_w]
     rfl
    refine one_ (i := 9) (N := some 25) b13A18 rfl rfl (one_of HT_.out zG128) zG129 (fun K hK => ?_)
    refine goes_ Try.func135 zG128 rfl #[.slice A0_0 l0_0.length c0_0, .slice A0_1 l0_1.length c0_1, .slice A1 l1.length c1] (by rfl) rfl rfl zG97 ?_
    with_reducible refine (spec_SourceOf.calls k _ _ l0_0 _ _ l0_1 _ _ l1 t348 t351 t352 t353 _ ?side1 ?side2 ?side3 ?side4 ?side5 ?side6 A4.out).mono ?_
    (case side1 => exact zah HR0_0.out zG90)
    (case side2 => exact HC0_0.out)
    (case side3 => exact zah HR0_1.out zG90)
    (case side4 => exact HC0_1.out)
    (case side5 => exact zah HR1.out zG90)
    (case side6 => exact zH127)
    rintro e w62 ⟨v349, rfl, ho0, hb⟩
    refine ⟨_, rfl, ?_⟩
    obtain ⟨n0_, n1_, n2_, n3_, n4_, n5_⟩ := zD6 (zal zG123 (zaj ho0) hb) (zam (zap (zbb (M := fun k_ => (P0_2_ k_ ∨ w.heap.size ≤ k_)) ho0 zK188 (fun k_ h_ => .inr h_)) (zaf zG123)) (zq zG96)) (zp (g := gi0) (o := .cells #[.slice A0_0 l0_0.length c0_0, .slice A0_1 l0_1.length c0_1, u9000_, .int .i64 a0_3, .int .i64 a0_4, .bool false] 136 (0, 0)) zG112 hb) (zp (g := gb354) (o := .cells #[.slice none 0 0, .int .i64 0, .int .i64 0] 52 (0, 0)) zG103 hb) (Kept.below (S := (fun k_ => (P0_2_ k_) ∨ k_ = gi0)) zG90 hb) (zu zG96 hb)
    clear HO0_2 BK0 BK354 HK HB
    have HO0_2 := n0_
    have HO350 := n1_
    have BK0 := n2_
    have BK354 := n3_
    have HK := n4_
    have HB := n5_
    clear n0_ n1_ n2_ n3_ n4_ n5_
    (try clear hb)
    (try clear hb2)
    (try clear hk)
    (try clear hi)
    (try clear ho0)
    refine hK.out _ _ ⟨(zi BK0.out 0).trans rfl, (zi BK0.out 1).trans rfl, (zi BK0.out 2).trans rfl, (zi BK0.out 3).trans rfl, (zi BK0.out 4).trans rfl, (zi BK0.out 5).trans rfl⟩ (fun hHeld => ?_)
    clear hK K
    refine norm_ (a' := ?_) ?_ ?_
    rotate_left
    ·show Act.put _ (some 25) _ = _
     simp only [Act.put, List.setIfInBounds_toArray, List.set_cons_zero, List.set_cons_succ, i64_w, i32_w]
     rfl
    refine zP 10 15 b13A19 HT_ ?_
    refine zP 11 26 b13A20 HT_ ?_
    refine zP 12 27 b13A0 HT_ ?_
    exact norm_ zG113 (hCont (v349, gb354) _ ⟨hHeld, zG123, zK226, zG112, zG103, GW354.out, GE354.out, NB0_354.out, NB354_0.out, zG90, zG96⟩)
  rintro ⟨v349, gb354⟩ w63 ⟨hS_, h0_, h1_, h2_, h3_, h4_, h5_, h6_, h7_, h8_, h9_⟩
  have n0_ : Aside0 (Kd.R (Kd.int .i64) 3 w63 w0.heap.size (fun k_ => (P0_2_ k_ ∨ w.heap.size ≤ k_) ∧ some k_ ≠ (v349 : Value).ownBlock) u9000_ l0_2) := ⟨h0_⟩
  have n1_ : Aside0 (Kd.R (Kd.int .i64) 3 w63 w0.heap.size (fun k_ => (P0_2_ k_ ∨ w.heap.size ≤ k_) ∧ some k_ ≠ (u9000_ : Value).ownBlock) v349 t348) := ⟨h1_⟩
  have n2_ : Aside0 (w63.heap[gi0]? = some (.cells #[.slice A0_0 l0_0.length c0_0, .slice A0_1 l0_1.length c0_1, u9000_, .int .i64 a0_3, .int .i64 a0_4, .bool false] 136 (0, 0))) := ⟨h2_⟩
  have n3_ : Aside0 (w63.heap[gb354]? = some (.cells #[.slice none 0 0, .int .i64 0, .int .i64 0] 52 (0, 0))) := ⟨h3_⟩
  have n4_ : Aside0 (w.heap.size ≤ gb354) := ⟨h4_⟩
  have n5_ : Aside0 (w0.heap.size ≤ gb354) := ⟨h5_⟩
  have n6_ : Aside0 (gi0 ≠ gb354) := ⟨h6_⟩
  have n7_ : Aside0 (gb354 ≠ gi0) := ⟨h7_⟩
  have n8_ : Aside0 (Kept w w63 (fun k_ => (P0_2_ k_) ∨ k_ = gi0)) := ⟨h8_⟩
  have n9_ : Aside0 (Below w0.heap.size w0 w63) := ⟨h9_⟩
  clear HO0_2
  clear BK0
  clear HK
  clear HB
  clear h0_ h1_ h2_ h3_ h4_ h5_ h6_ h7_ h8_ h9_
  have HO0_2 := n0_
  have HO350 := n1_
  have BK0 := n2_
  have BK354 := n3_
  have GW354 := n4_
  have GE354 := n5_
  have NB0_354 := n6_
  have NB354_0 := n7_
  have HK := n8_
  have HB := n9_
  clear n0_ n1_ n2_ n3_ n4_ n5_ n6_ n7_ n8_ n9_
  have hHeld : w63.cell? ⟨gi0, 0, none⟩ = some (.slice A0_0 l0_0.length c0_0) ∧ w63.cell? ⟨gi0, 1, none⟩ = some (.slice A0_1 l0_1.length c0_1) ∧ w63.cell? ⟨gi0, 2, none⟩ = some (u9000_) ∧ w63.cell? ⟨gi0, 3, none⟩ = some (.int .i64 a0_3) ∧ w63.cell? ⟨gi0, 4, none⟩ = some (.int .i64 a0_4) ∧ w63.cell? ⟨gi0, 5, none⟩ = some (.bool false) := hS_
  obtain ⟨Ao64, co64, eo64⟩ := zan HO350.out
  (first | subst eo64 | (injection eo64 with f1_ f2_ f3_; have f4_ := f1_.symm; have f5_ := f3_.symm; clear f1_ f2_ f3_; subst f4_; subst f5_))
  refine norm_ (a' := ?_) ?_ ?_
  rotate_left
  ·simp only [putAll, Act.put, List.setIfInBounds_toArray, List.set_cons_zero, List.set_cons_succ]
   rfl
  refine one_ (i := 14) (N := none) b13A7 rfl rfl (one_of HT_.out zG128) zG129 (fun K hK => ?_)
  have hs65 : w63.cell? ⟨gb354, 0, none⟩ = some (.slice none 0 0) := (zi BK354.out 0).trans rfl
  have hfs65 := zm BK354.out 0
  have hns65_0 := NB0_354.out
  have hms65_0 := NB354_0.out
  have hs66 : w63.cell? ⟨gb354, 1, none⟩ = some (.int .i64 0) := (zi BK354.out 1).trans rfl
  have hfs66 := zm BK354.out 1
  have hns66_0 := NB0_354.out
  have hms66_0 := NB354_0.out
  have hs67 : w63.cell? ⟨gb354, 2, none⟩ = some (.int .i64 0) := (zi BK354.out 2).trans rfl
  have hfs67 := zm BK354.out 2
  have hns67_0 := NB0_354.out
  have hms67_0 := NB354_0.out
  refine skip_ (w1 := ?_) (by rfl) rfl ?_ ?_
  rotate_left
  ·go_simp
   rfl
  refine hK.out _ _ ⟨((cell_far (p := ⟨gb354, _, none⟩) NB0_354.out _).trans (((cell_far (p := ⟨gb354, _, none⟩) NB0_354.out _).trans (((cell_far (p := ⟨gb354, _, none⟩) NB0_354.out _).trans (hHeld.1)))))), ((cell_far (p := ⟨gb354, _, none⟩) NB0_354.out _).trans (((cell_far (p := ⟨gb354, _, none⟩) NB0_354.out _).trans (((cell_far (p := ⟨gb354, _, none⟩) NB0_354.out _).trans (hHeld.2.1)))))), ((cell_far (p := ⟨gb354, _, none⟩) NB0_354.out _).trans (((cell_far (p := ⟨gb354, _, none⟩) NB0_354.out _).trans (((cell_far (p := ⟨gb354, _, none⟩) NB0_354.out _).trans (hHeld.2.2.1)))))), ((cell_far (p := ⟨gb354, _, none⟩) NB0_354.out _).trans (((cell_far (p := ⟨gb354, _, none⟩) NB0_354.out _).trans (((cell_far (p := ⟨gb354, _, none⟩) NB0_354.out _).trans (hHeld.2.2.2.1)))))), ((cell_far (p := ⟨gb354, _, none⟩) NB0_354.out _).trans (((cell_far (p := ⟨gb354, _, none⟩) NB0_354.out _).trans (((cell_far (p := ⟨gb354, _, none⟩) NB0_354.out _).trans (hHeld.2.2.2.2.1)))))), ((cell_far (p := ⟨gb354, _, none⟩) NB0_354.out _).trans (((cell_far (p := ⟨gb354, _, none⟩) NB0_354.out _).trans (((cell_far (p := ⟨gb354, _, none⟩) NB0_354.out _).trans (hHeld.2.2.2.2.2))))))⟩ (fun hHeld => ?_)
  clear hK K
  refine zP 15 5 b13A8 HT_ ?_
  refine done_ (done_of HT_.out zG128) ?_
  try go_wp2
  have n0_ : Aside0 (Kd.R (Kd.int .i64) 3 (((w63.setCell ⟨gb354, 0, none⟩ (.slice Ao64 t348.length co64)).setCell ⟨gb354, 1, none⟩ (.int .i64 t351)).setCell ⟨gb354, 2, none⟩ (.int .i64 t352)) w0.heap.size (fun k_ => (P0_2_ k_ ∨ w.heap.size ≤ k_) ∧ some k_ ≠ (.slice Ao64 t348.length co64 : Value).ownBlock) u9000_ l0_2) := ⟨by (with_reducible repeat (first | apply zj | apply zk | apply zl)); exact zs (zo (p := ⟨gb354, 2, none⟩) (zo (p := ⟨gb354, 1, none⟩) (zo (p := ⟨gb354, 0, none⟩) (zt HO0_2.out BK354.out zG129) (fun _ hk => hk.2) (.slice Ao64 t348.length co64)) (fun _ hk => hk.2) (.int .i64 t351)) (fun _ hk => hk.2) (.int .i64 t352)) (fun _ hk => ⟨hk.1.1, hk.1.2⟩)⟩
  have n1_ : Aside0 (Kd.R (Kd.int .i64) 3 (((w63.setCell ⟨gb354, 0, none⟩ (.slice Ao64 t348.length co64)).setCell ⟨gb354, 1, none⟩ (.int .i64 t351)).setCell ⟨gb354, 2, none⟩ (.int .i64 t352)) w0.heap.size (fun k_ => (P0_2_ k_ ∨ w.heap.size ≤ k_) ∧ some k_ ≠ (u9000_ : Value).ownBlock) (.slice Ao64 t348.length co64) t348) := ⟨by (with_reducible repeat (first | apply zj | apply zk | apply zl)); exact zs (zo (p := ⟨gb354, 2, none⟩) (zo (p := ⟨gb354, 1, none⟩) (zo (p := ⟨gb354, 0, none⟩) (zt HO350.out BK354.out zG129) (fun _ hk => hk.2) (.slice Ao64 t348.length co64)) (fun _ hk => hk.2) (.int .i64 t351)) (fun _ hk => hk.2) (.int .i64 t352)) (fun _ hk => ⟨hk.1.1, hk.1.2⟩)⟩
  have n2_ : Aside0 ((((w63.setCell ⟨gb354, 0, none⟩ (.slice Ao64 t348.length co64)).setCell ⟨gb354, 1, none⟩ (.int .i64 t351)).setCell ⟨gb354, 2, none⟩ (.int .i64 t352)).heap[gi0]? = some (.cells #[.slice A0_0 l0_0.length c0_0, .slice A0_1 l0_1.length c0_1, u9000_, .int .i64 a0_3, .int .i64 a0_4, .bool false] 136 (0, 0))) := ⟨zH6⟩
  have n3_ : Aside0 ((((w63.setCell ⟨gb354, 0, none⟩ (.slice Ao64 t348.length co64)).setCell ⟨gb354, 1, none⟩ (.int .i64 t351)).setCell ⟨gb354, 2, none⟩ (.int .i64 t352)).heap[gb354]? = some (.cells #[.slice Ao64 t348.length co64, .int .i64 t351, .int .i64 t352] 52 (0, 0))) := ⟨by (with_reducible repeat (first | refine zc ?_ _ | refine zd ?_ | refine zb ?_ _)); refine zw (cs := #[.slice Ao64 t348.length co64, .int .i64 t351, .int .i64 0]) ?_ 2 _ rfl; (with_reducible repeat (first | refine zc ?_ _ | refine zd ?_ | refine zb ?_ _)); refine zw (cs := #[.slice Ao64 t348.length co64, .int .i64 0, .int .i64 0]) ?_ 1 _ rfl; (with_reducible repeat (first | refine zc ?_ _ | refine zd ?_ | refine zb ?_ _)); refine zw (cs := #[.slice none 0 0, .int .i64 0, .int .i64 0]) ?_ 0 _ rfl; (with_reducible repeat (first | refine zc ?_ _ | refine zd ?_ | refine zb ?_ _)); exact BK354.out⟩
  have n4_ : Aside0 (Kept w (((w63.setCell ⟨gb354, 0, none⟩ (.slice Ao64 t348.length co64)).setCell ⟨gb354, 1, none⟩ (.int .i64 t351)).setCell ⟨gb354, 2, none⟩ (.int .i64 t352)) (fun k_ => (P0_2_ k_) ∨ k_ = gi0)) := ⟨zH33⟩
  have n5_ : Aside0 (Below w0.heap.size w0 (((w63.setCell ⟨gb354, 0, none⟩ (.slice Ao64 t348.length co64)).setCell ⟨gb354, 1, none⟩ (.int .i64 t351)).setCell ⟨gb354, 2, none⟩ (.int .i64 t352))) := ⟨zH59⟩
  (try clear HO0_2)
  (try clear HO350)
  (try clear BK0)
  (try clear BK354)
  (try clear HK)
  (try clear HB)
  generalize (((w63.setCell ⟨gb354, 0, none⟩ (.slice Ao64 t348.length co64)).setCell ⟨gb354, 1, none⟩ (.int .i64 t351)).setCell ⟨gb354, 2, none⟩ (.int .i64 t352)) = w68 at n0_ n1_ n2_ n3_ n4_ n5_ ⊢
  have HO0_2 := n0_
  have HO350 := n1_
  have BK0 := n2_
  have BK354 := n3_
  have HK := n4_
  have HB := n5_
  clear n0_ n1_ n2_ n3_ n4_ n5_
  obtain ⟨n0_, n1_, n2_, n3_, n4_, n5_⟩ := zD6 (zl HO0_2.out) (zl HO350.out) (zd BK0.out) (zd BK354.out) (Kept.drew HK.out) (zg HB.out)
  clear HO0_2 HO350 BK0 BK354 HK HB
  have HO0_2 := n0_
  have HO350 := n1_
  have BK0 := n2_
  have BK354 := n3_
  have HK := n4_
  have HB := n5_
  clear n0_ n1_ n2_ n3_ n4_ n5_
  refine start_ (n := 35) (S := fun w' => w'.cell? ⟨gi0, 0, none⟩ = some (.slice A0_0 l0_0.length c0_0) ∧ w'.cell? ⟨gi0, 1, none⟩ = some (.slice A0_1 l0_1.length c0_1) ∧ w'.cell? ⟨gi0, 2, none⟩ = some (u9000_) ∧ w'.cell? ⟨gi0, 3, none⟩ = some (.int .i64 a0_3) ∧ w'.cell? ⟨gi0, 4, none⟩ = some (.int .i64 a0_4) ∧ w'.cell? ⟨gi0, 5, none⟩ = some (.bool false)) (ds := []) b13A21 zG128 rfl rfl ⟨(zi BK0.out 0).trans rfl, (zi BK0.out 1).trans rfl, (zi BK0.out 2).trans rfl, (zi BK0.out 3).trans rfl, (zi BK0.out 4).trans rfl, (zi BK0.out 5).trans rfl⟩ (fun hHeld => ?_); refine with_tabW spec_l23Search_try.tab2 spec_l23Search_try.bits2 (fun HT_ HW_ => ?_)
  generalize w68.drew = w69 at HO0_2 HO350 BK0 BK354 HK HB hHeld ⊢
  refine zP 0 28 b13A22 HT_ ?_
  refine zP 1 29 b13A23 HT_ ?_
  refine zP 2 30 b13A24 HT_ ?_
  refine zQ 3 31 b13A25 HT_ HW_ hHeld ?_
  refine zP 4 32 b13A26 HT_ ?_
  refine zP 5 33 b13A27 HT_ ?_
  refine zU 6 34 b13A28 HT_ ?_
  refine zU 7 35 #[true, true, true, true, true, true, true, true, false, false, false, false, false, false, false, false, false, false, false, false, false, false, false, false, false, false, false, false, false, false, false, false, false, false, false] HT_ ?_
  refine zU 8 36 #[true, true, true, true, true, true, true, true, true, false, false, false, false, false, false, false, false, false, false, false, false, false, false, false, false, false, false, false, false, false, false, false, false, false, false] HT_ ?_
  refine zU 9 37 #[true, true, true, true, true, true, true, true, true, true, false, false, false, false, false, false, false, false, false, false, false, false, false, false, false, false, false, false, false, false, false, false, false, false, false] HT_ ?_
  refine zU 10 38 #[true, true, true, true, true, true, true, true, true, true, true, false, false, false, false, false, false, false, false, false, false, false, false, false, false, false, false, false, false, false, false, false, false, false, false] HT_ ?_
  refine zU 11 39 b13A29 HT_ ?_
  refine zU 12 40 b13A30 HT_ ?_
  refine zU 13 41 b13A31 HT_ ?_
  refine zP 14 42 b13A32 HT_ ?_
  refine zP 15 43 b13A33 HT_ ?_
  refine zU 16 44 b13A34 HT_ ?_
  refine zU 17 45 b13A57 HT_ ?_
  refine zU 18 46 b13A58 HT_ ?_
  refine zU 19 47 b13A59 HT_ ?_
  refine zU 20 48 b13A60 HT_ ?_
  refine zU 21 49 b13A35 HT_ ?_
  refine zU 22 50 b13A36 HT_ ?_
  refine zU 23 51 b13A37 HT_ ?_
  refine zU 24 52 b13A38 HT_ ?_
  refine zU 25 53 b13A39 HT_ ?_
  refine zU 26 54 b13A49 HT_ ?_
  refine zU 27 55 b13A50 HT_ ?_
  refine zU 28 56 b13A51 HT_ ?_
  refine zU 29 57 b13A52 HT_ ?_
  refine zU 30 58 b13A40 HT_ ?_
  refine zU 31 59 b13A41 HT_ ?_
  refine zU 32 60 b13A42 HT_ ?_
  refine zU 33 61 b13A43 HT_ ?_
  refine zP 34 62 b13A44 HT_ ?_
  refine done_ (done_of HT_.out zG128) ?_
  have hnb70 := NB354_0.out
  have hnc70 := NB0_354.out
  obtain ⟨hcz71_0, hcz71_1, hcz71_2, hfz71_0, hfz71_1, hfz71_2⟩ := zB3 BK354.out
  obtain ⟨hcz72_0, hcz72_1, hcz72_2, hcz72_3, hcz72_4, hcz72_5, hfz72_0, hfz72_1, hfz72_2, hfz72_3, hfz72_4, hfz72_5⟩ := zB6 BK0.out
  try go_wp2
  first | go_end0 | ((try simp only [Exit.inBlock, Exit.then]); refine bodyPost_ret (results_none rfl _ _ _) rfl ?_)
  exact ⟨_, zH111, by (with_reducible repeat (first | apply zj | apply zk | apply zl)); exact zs (zo (p := ⟨gi0, 5, none⟩) (zo (p := ⟨gi0, 4, none⟩) (zo (p := ⟨gi0, 3, none⟩) (zo (p := ⟨gi0, 2, none⟩) (zt HO350.out BK0.out zG129) (fun _ hk => hk.2) (.slice Ao64 t348.length co64)) (fun _ hk => hk.2) (.int .i64 t351)) (fun _ hk => hk.2) (.int .i64 t352)) (fun _ hk => hk.2) (.bool true)) (fun _ hk => hk.1.1), (by (with_reducible repeat (first | refine zc ?_ _ | refine zd ?_ | refine zb ?_ _)); refine zw (cs := #[.slice A0_0 l0_0.length c0_0, .slice A0_1 l0_1.length c0_1, .slice Ao64 t348.length co64, .int .i64 t351, .int .i64 t352, .bool false]) ?_ 5 _ rfl; (with_reducible repeat (first | refine zc ?_ _ | refine zd ?_ | refine zb ?_ _)); refine zw (cs := #[.slice A0_0 l0_0.length c0_0, .slice A0_1 l0_1.length c0_1, .slice Ao64 t348.length co64, .int .i64 t351, .int .i64 a0_4, .bool false]) ?_ 4 _ rfl; (with_reducible repeat (first | refine zc ?_ _ | refine zd ?_ | refine zb ?_ _)); refine zw (cs := #[.slice A0_0 l0_0.length c0_0, .slice A0_1 l0_1.length c0_1, .slice Ao64 t348.length co64, .int .i64 a0_3, .int .i64 a0_4, .bool false]) ?_ 3 _ rfl; (with_reducible repeat (first | refine zc ?_ _ | refine zd ?_ | refine zb ?_ _)); refine zw (cs := #[.slice A0_0 l0_0.length c0_0, .slice A0_1 l0_1.length c0_1, u9000_, .int .i64 a0_3, .int .i64 a0_4, .bool false]) ?_ 2 _ rfl; (with_reducible repeat (first | refine zc ?_ _ | refine zd ?_ | refine zb ?_ _)); exact BK0.out), zH59, zH33⟩
 subst c5
 have H1 : (if t352 < a0_4 then (some (t348, t351, t352, true)) else (if t352 = a0_4 then (if t351 < a0_3 then (some (t348, t351, t352, true)) else (some (l0_2, a0_3, a0_4, true))) else (some (l0_2, a0_3, a0_4, true)))) = some (r1, r2, r3, r4) := by rw [if_pos rfl] at H; exact H
 clear H
 have H := H1
 clear H1
 by_cases c6 : t352 < a0_4
 ·rw [if_pos c6] at H
  have c6b0 := decide_eq_true c6
  clear c6
  simp only [Option.some.injEq, Prod.mk.injEq] at H
  obtain ⟨rfl, rfl, rfl, rfl⟩ := H
  obtain ⟨hcz7_0, hcz7_1, hcz7_2, hcz7_3, hcz7_4, hcz7_5, hfz7_0, hfz7_1, hfz7_2, hfz7_3, hfz7_4, hfz7_5⟩ := zB6 BK0.out
  go_enter Try.func91, Try.ntmps91
  try go_wp2
  obtain ⟨n0_, n1_, n2_, n3_⟩ := zD4 (zl HO0_2.out) (zd BK0.out) (Kept.drew HK.out) (zg HB.out)
  clear HO0_2 BK0 HK HB
  have HO0_2 := n0_
  have BK0 := n1_
  have HK := n2_
  have HB := n3_
  clear n0_ n1_ n2_ n3_
  refine start_ (n := 16) (S := fun w' => w'.cell? ⟨gi0, 0, none⟩ = some (.slice A0_0 l0_0.length c0_0) ∧ w'.cell? ⟨gi0, 1, none⟩ = some (.slice A0_1 l0_1.length c0_1) ∧ w'.cell? ⟨gi0, 2, none⟩ = some (u9000_) ∧ w'.cell? ⟨gi0, 3, none⟩ = some (.int .i64 a0_3) ∧ w'.cell? ⟨gi0, 4, none⟩ = some (.int .i64 a0_4) ∧ w'.cell? ⟨gi0, 5, none⟩ = some (.bool true)) (ds := []) b13A1 zG128 rfl rfl ⟨(zi BK0.out 0).trans rfl, (zi BK0.out 1).trans rfl, (zi BK0.out 2).trans rfl, (zi BK0.out 3).trans rfl, (zi BK0.out 4).trans rfl, (zi BK0.out 5).trans rfl⟩ (fun hHeld => ?_); refine with_tabW spec_l23Search_try.tab1 spec_l23Search_try.bits1 (fun HT_ HW_ => ?_)
  generalize w.drew = w8 at HO0_2 BK0 HK HB hHeld ⊢
  refine zP 0 16 b13A2 HT_ ?_
  refine zP 1 17 b13A3 HT_ ?_
  refine zP 2 18 b13A4 HT_ ?_
  refine zP 4 20 b13A5 HT_ ?_
  refine zP 5 21 b13A9 HT_ ?_
  refine zP 6 22 b13A10 HT_ ?_
  refine zP 8 24 b13A11 HT_ ?_
  refine zQ 3 19 b13A12 HT_ HW_ hHeld ?_
  refine zQ 7 23 b13A13 HT_ HW_ hHeld ?_
  refine join_ (σ := Value × Nat) 2 b13A0 (fun s_ => [(25, .tuple #[.agg #[s_.1, .int .i64 t351, .int .i64 t352], .int .i64 t353]), (4, .pointer (some ⟨s_.2, 0, none⟩)), (15, .tuple #[.agg #[s_.1, .int .i64 t351, .int .i64 t352], .int .i64 t353]), (26, .agg #[s_.1, .int .i64 t351, .int .i64 t352]), (27, .int .i64 t353)]) (fun s_ w' => (w'.cell? ⟨gi0, 0, none⟩ = some (.slice A0_0 l0_0.length c0_0) ∧ w'.cell? ⟨gi0, 1, none⟩ = some (.slice A0_1 l0_1.length c0_1) ∧ w'.cell? ⟨gi0, 2, none⟩ = some (u9000_) ∧ w'.cell? ⟨gi0, 3, none⟩ = some (.int .i64 a0_3) ∧ w'.cell? ⟨gi0, 4, none⟩ = some (.int .i64 a0_4) ∧ w'.cell? ⟨gi0, 5, none⟩ = some (.bool true)) ∧ (Kd.R (Kd.int .i64) 3 w' w0.heap.size (fun k_ => (P0_2_ k_ ∨ w.heap.size ≤ k_) ∧ some k_ ≠ (s_.1 : Value).ownBlock) u9000_ l0_2) ∧ (Kd.R (Kd.int .i64) 3 w' w0.heap.size (fun k_ => (P0_2_ k_ ∨ w.heap.size ≤ k_) ∧ some k_ ≠ (u9000_ : Value).ownBlock) s_.1 t348) ∧ (w'.heap[gi0]? = some (.cells #[.slice A0_0 l0_0.length c0_0, .slice A0_1 l0_1.length c0_1, u9000_, .int .i64 a0_3, .int .i64 a0_4, .bool true] 136 (0, 0))) ∧ (w'.heap[s_.2]? = some (.cells #[.slice none 0 0, .int .i64 0, .int .i64 0] 52 (0, 0))) ∧ (w.heap.size ≤ s_.2) ∧ (w0.heap.size ≤ s_.2) ∧ (gi0 ≠ s_.2) ∧ (s_.2 ≠ gi0) ∧ (Kept w w' (fun k_ => (P0_2_ k_) ∨ k_ = gi0)) ∧ (Below w0.heap.size w0 w')) ?_ ?_
  rotate_left
  ·intro hCont
   refine two_ (i := 9) (j := 13) (Ni := some 25) (Nj := some 4) b13A14 b13A15 rfl rfl rfl rfl (two_of HT_.out zG128) zG129 zG129 (fun K hK => ?_) (fun K hK => ?_)
   ·skip
    refine goes_ Try.func135 zG128 rfl #[.slice A0_0 l0_0.length c0_0, .slice A0_1 l0_1.length c0_1, .slice A1 l1.length c1] (by rfl) rfl rfl zG97 ?_
    with_reducible refine (spec_SourceOf.calls k _ _ l0_0 _ _ l0_1 _ _ l1 t348 t351 t352 t353 _ ?side1 ?side2 ?side3 ?side4 ?side5 ?side6 A4.out).mono ?_
    (case side1 => exact zah HR0_0.out zG93)
    (case side2 => exact HC0_0.out)
    (case side3 => exact zah HR0_1.out zG93)
    (case side4 => exact HC0_1.out)
    (case side5 => exact zah HR1.out zG93)
    (case side6 => exact zH127)
    rintro e w9 ⟨v349, rfl, ho0, hb⟩
    refine ⟨_, rfl, ?_⟩
    obtain ⟨n0_, n1_, n2_, n3_, n4_⟩ := zD5 (zal zG123 (zaj ho0) hb) (zam (zap (zbb (M := fun k_ => (P0_2_ k_ ∨ w.heap.size ≤ k_)) ho0 zG87 (fun k_ h_ => .inr h_)) (zaf zG123)) (zq zG101)) (zp (g := gi0) (o := .cells #[.slice A0_0 l0_0.length c0_0, .slice A0_1 l0_1.length c0_1, u9000_, .int .i64 a0_3, .int .i64 a0_4, .bool true] 136 (0, 0)) zG112 hb) (Kept.below (S := (fun k_ => (P0_2_ k_) ∨ k_ = gi0)) zG93 hb) (zu zG101 hb)
    clear HO0_2 BK0 HK HB
    have HO0_2 := n0_
    have HO350 := n1_
    have BK0 := n2_
    have HK := n3_
    have HB := n4_
    clear n0_ n1_ n2_ n3_ n4_
    (try clear hb)
    (try clear hb2)
    (try clear hk)
    (try clear hi)
    (try clear ho0)
    refine hK.out _ _ ⟨(zi BK0.out 0).trans rfl, (zi BK0.out 1).trans rfl, (zi BK0.out 2).trans rfl, (zi BK0.out 3).trans rfl, (zi BK0.out 4).trans rfl, (zi BK0.out 5).trans rfl⟩ (fun hHeld => ?_)
    clear hK K
    refine norm_ (a' := ?_) ?_ ?_
    rotate_left
    ·show Act.put _ (some 25) _ = _
     simp only [Act.put, List.setIfInBounds_toArray, List.set_cons_zero, List.set_cons_succ, i64_w, i32_w]
     rfl
    refine zP 10 15 b13A16 HT_ ?_
    refine zP 11 26 b13A17 HT_ ?_
    refine zP 12 27 b13A6 HT_ ?_
    refine one_ (i := 13) (N := some 4) b13A0 rfl rfl (one_of HT_.out zG128) zG129 (fun K hK => ?_)
    refine box_step ?hg (N := 4) ?hd (cs := #[.slice none 0 0, .int .i64 0, .int .i64 0]) (t := 52) ?hr ?_; (case hd => rfl); (case hg => rfl); (case hr => exact zH119)
    intro gb354 hg w10 hbox hb
    obtain ⟨n0_, n1_, n2_, n3_, n4_, n5_, n6_, n7_, n8_, n9_⟩ := zD10 (zv zG123 hb) (zv zK244 hb) (zp (g := gi0) (o := .cells #[.slice A0_0 l0_0.length c0_0, .slice A0_1 l0_1.length c0_1, u9000_, .int .i64 a0_3, .int .i64 a0_4, .bool true] 136 (0, 0)) zG112 hb) (Kept.below (S := (fun k_ => (P0_2_ k_) ∨ k_ = gi0)) zG93 hb) (zu zG101 hb) (hbox) ((by rw [hg]; exact zG87 : w.heap.size ≤ gb354)) ((by rw [hg]; exact (zq zG101) : w0.heap.size ≤ gb354)) ((by rw [hg]; exact Nat.ne_of_lt (zz (g := gi0) (o := .cells #[.slice A0_0 l0_0.length c0_0, .slice A0_1 l0_1.length c0_1, u9000_, .int .i64 a0_3, .int .i64 a0_4, .bool true] 136 (0, 0)) zG112) : gi0 ≠ gb354)) ((by rw [hg]; exact Nat.ne_of_gt (zz (g := gi0) (o := .cells #[.slice A0_0 l0_0.length c0_0, .slice A0_1 l0_1.length c0_1, u9000_, .int .i64 a0_3, .int .i64 a0_4, .bool true] 136 (0, 0)) zG112) : gb354 ≠ gi0))
    clear HO0_2 HO350 BK0 HK HB
    have HO0_2 := n0_
    have HO350 := n1_
    have BK0 := n2_
    have HK := n3_
    have HB := n4_
    have BK354 := n5_
    have GW354 := n6_
    have GE354 := n7_
    have NB0_354 := n8_
    have NB354_0 := n9_
    clear n0_ n1_ n2_ n3_ n4_ n5_ n6_ n7_ n8_ n9_
    clear hb hbox hg
    refine hK.out _ _ ⟨(zi BK0.out 0).trans rfl, (zi BK0.out 1).trans rfl, (zi BK0.out 2).trans rfl, (zi BK0.out 3).trans rfl, (zi BK0.out 4).trans rfl, (zi BK0.out 5).trans rfl⟩ (fun hHeld => ?_)
    clear hK K
    refine norm_ (a' := ?_) ?_ ?_
    rotate_left
    ·show Act.put _ (some 4) _ = _
     simp only [Act.put, List.setIfInBounds_toArray, List.set_cons_zero, List.set_cons_succ, i64_w, i32_w]
     rfl
    exact norm_ zG113 (hCont (v349, gb354) _ ⟨hHeld, zG123, zK226, zG112, zG103, GW354.out, GE354.out, NB0_354.out, NB354_0.out, zG90, zG96⟩)
   ·skip
    refine box_step ?hg (N := 4) ?hd (cs := #[.slice none 0 0, .int .i64 0, .int .i64 0]) (t := 52) ?hr ?_; (case hd => rfl); (case hg => rfl); (case hr => exact zH119)
    intro gb354 hg w9 hbox hb
    obtain ⟨n0_, n1_, n2_, n3_, n4_, n5_, n6_, n7_, n8_⟩ := zD9 (zv zG123 hb) (zp (g := gi0) (o := .cells #[.slice A0_0 l0_0.length c0_0, .slice A0_1 l0_1.length c0_1, u9000_, .int .i64 a0_3, .int .i64 a0_4, .bool true] 136 (0, 0)) zG112 hb) (Kept.below (S := (fun k_ => (P0_2_ k_) ∨ k_ = gi0)) zG93 hb) (zu zG101 hb) (hbox) ((by rw [hg]; exact zG87 : w.heap.size ≤ gb354)) ((by rw [hg]; exact (zq zG101) : w0.heap.size ≤ gb354)) ((by rw [hg]; exact Nat.ne_of_lt (zz (g := gi0) (o := .cells #[.slice A0_0 l0_0.length c0_0, .slice A0_1 l0_1.length c0_1, u9000_, .int .i64 a0_3, .int .i64 a0_4, .bool true] 136 (0, 0)) zG112) : gi0 ≠ gb354)) ((by rw [hg]; exact Nat.ne_of_gt (zz (g := gi0) (o := .cells #[.slice A0_0 l0_0.length c0_0, .slice A0_1 l0_1.length c0_1, u9000_, .int .i64 a0_3, .int .i64 a0_4, .bool true] 136 (0, 0)) zG112) : gb354 ≠ gi0))
    clear HO0_2 BK0 HK HB
    have HO0_2 := n0_
    have BK0 := n1_
    have HK := n2_
    have HB := n3_
    have BK354 := n4_
    have GW354 := n5_
    have GE354 := n6_
    have NB0_354 := n7_
    have NB354_0 := n8_
    clear n0_ n1_ n2_ n3_ n4_ n5_ n6_ n7_ n8_
    clear hb hbox hg
    refine hK.out _ _ ⟨(zi BK0.out 0).trans rfl, (zi BK0.out 1).trans rfl, (zi BK0.out 2).trans rfl, (zi BK0.out 3).trans rfl, (zi BK0.out 4).trans rfl, (zi BK0.out 5).trans rfl⟩ (fun hHeld => ?_)
    clear hK K
    refine norm_ (a' := ?_) ?_ ?_
    rotate_left
    ·show Act.put _ (some 4) _ = _
     simp only [Act.put, List.setIfInBounds_toArray, List.set_cons_zero, List.set_cons_succ, i64_w, i32_w]
     rfl
    refine one_ (i := 9) (N := some 25) b13A18 rfl rfl (one_of HT_.out zG128) zG129 (fun K hK => ?_)
    refine goes_ Try.func135 zG128 rfl #[.slice A0_0 l0_0.length c0_0, .slice A0_1 l0_1.length c0_1, .slice A1 l1.length c1] (by rfl) rfl rfl zG97 ?_
    with_reducible refine (spec_SourceOf.calls k _ _ l0_0 _ _ l0_1 _ _ l1 t348 t351 t352 t353 _ ?side1 ?side2 ?side3 ?side4 ?side5 ?side6 A4.out).mono ?_
    (case side1 => exact zah HR0_0.out zG90)
    (case side2 => exact HC0_0.out)
    (case side3 => exact zah HR0_1.out zG90)
    (case side4 => exact HC0_1.out)
    (case side5 => exact zah HR1.out zG90)
    (case side6 => exact zH127)
    rintro e w10 ⟨v349, rfl, ho0, hb⟩
    refine ⟨_, rfl, ?_⟩
    obtain ⟨n0_, n1_, n2_, n3_, n4_, n5_⟩ := zD6 (zal zG123 (zaj ho0) hb) (zam (zap (zbb (M := fun k_ => (P0_2_ k_ ∨ w.heap.size ≤ k_)) ho0 zK188 (fun k_ h_ => .inr h_)) (zaf zG123)) (zq zG96)) (zp (g := gi0) (o := .cells #[.slice A0_0 l0_0.length c0_0, .slice A0_1 l0_1.length c0_1, u9000_, .int .i64 a0_3, .int .i64 a0_4, .bool true] 136 (0, 0)) zG112 hb) (zp (g := gb354) (o := .cells #[.slice none 0 0, .int .i64 0, .int .i64 0] 52 (0, 0)) zG103 hb) (Kept.below (S := (fun k_ => (P0_2_ k_) ∨ k_ = gi0)) zG90 hb) (zu zG96 hb)
    clear HO0_2 BK0 BK354 HK HB
    have HO0_2 := n0_
    have HO350 := n1_
    have BK0 := n2_
    have BK354 := n3_
    have HK := n4_
    have HB := n5_
    clear n0_ n1_ n2_ n3_ n4_ n5_
    (try clear hb)
    (try clear hb2)
    (try clear hk)
    (try clear hi)
    (try clear ho0)
    refine hK.out _ _ ⟨(zi BK0.out 0).trans rfl, (zi BK0.out 1).trans rfl, (zi BK0.out 2).trans rfl, (zi BK0.out 3).trans rfl, (zi BK0.out 4).trans rfl, (zi BK0.out 5).trans rfl⟩ (fun hHeld => ?_)
    clear hK K
    refine norm_ (a' := ?_) ?_ ?_
    rotate_left
    ·show Act.put _ (some 25) _ = _
     simp only [Act.put, List.setIfInBounds_toArray, List.set_cons_zero, List.set_cons_succ, i64_w, i32_w]
     rfl
    refine zP 10 15 b13A19 HT_ ?_
    refine zP 11 26 b13A20 HT_ ?_
    refine zP 12 27 b13A0 HT_ ?_
    exact norm_ zG113 (hCont (v349, gb354) _ ⟨hHeld, zG123, zK226, zG112, zG103, GW354.out, GE354.out, NB0_354.out, NB354_0.out, zG90, zG96⟩)
  rintro ⟨v349, gb354⟩ w11 ⟨hS_, h0_, h1_, h2_, h3_, h4_, h5_, h6_, h7_, h8_, h9_⟩
  have n0_ : Aside0 (Kd.R (Kd.int .i64) 3 w11 w0.heap.size (fun k_ => (P0_2_ k_ ∨ w.heap.size ≤ k_) ∧ some k_ ≠ (v349 : Value).ownBlock) u9000_ l0_2) := ⟨h0_⟩
  have n1_ : Aside0 (Kd.R (Kd.int .i64) 3 w11 w0.heap.size (fun k_ => (P0_2_ k_ ∨ w.heap.size ≤ k_) ∧ some k_ ≠ (u9000_ : Value).ownBlock) v349 t348) := ⟨h1_⟩
  have n2_ : Aside0 (w11.heap[gi0]? = some (.cells #[.slice A0_0 l0_0.length c0_0, .slice A0_1 l0_1.length c0_1, u9000_, .int .i64 a0_3, .int .i64 a0_4, .bool true] 136 (0, 0))) := ⟨h2_⟩
  have n3_ : Aside0 (w11.heap[gb354]? = some (.cells #[.slice none 0 0, .int .i64 0, .int .i64 0] 52 (0, 0))) := ⟨h3_⟩
  have n4_ : Aside0 (w.heap.size ≤ gb354) := ⟨h4_⟩
  have n5_ : Aside0 (w0.heap.size ≤ gb354) := ⟨h5_⟩
  have n6_ : Aside0 (gi0 ≠ gb354) := ⟨h6_⟩
  have n7_ : Aside0 (gb354 ≠ gi0) := ⟨h7_⟩
  have n8_ : Aside0 (Kept w w11 (fun k_ => (P0_2_ k_) ∨ k_ = gi0)) := ⟨h8_⟩
  have n9_ : Aside0 (Below w0.heap.size w0 w11) := ⟨h9_⟩
  clear HO0_2
  clear BK0
  clear HK
  clear HB
  clear h0_ h1_ h2_ h3_ h4_ h5_ h6_ h7_ h8_ h9_
  have HO0_2 := n0_
  have HO350 := n1_
  have BK0 := n2_
  have BK354 := n3_
  have GW354 := n4_
  have GE354 := n5_
  have NB0_354 := n6_
  have NB354_0 := n7_
  have HK := n8_
  have HB := n9_
  clear n0_ n1_ n2_ n3_ n4_ n5_ n6_ n7_ n8_ n9_
  have hHeld : w11.cell? ⟨gi0, 0, none⟩ = some (.slice A0_0 l0_0.length c0_0) ∧ w11.cell? ⟨gi0, 1, none⟩ = some (.slice A0_1 l0_1.length c0_1) ∧ w11.cell? ⟨gi0, 2, none⟩ = some (u9000_) ∧ w11.cell? ⟨gi0, 3, none⟩ = some (.int .i64 a0_3) ∧ w11.cell? ⟨gi0, 4, none⟩ = some (.int .i64 a0_4) ∧ w11.cell? ⟨gi0, 5, none⟩ = some (.bool true) := hS_
  obtain ⟨Ao12, co12, eo12⟩ := zan HO350.out
  (first | subst eo12 | (injection eo12 with f1_ f2_ f3_; have f4_ := f1_.symm; have f5_ := f3_.symm; clear f1_ f2_ f3_; subst f4_; subst f5_))
  refine norm_ (a' := ?_) ?_ ?_
  rotate_left
  ·simp only [putAll, Act.put, List.setIfInBounds_toArray, List.set_cons_zero, List.set_cons_succ]
   rfl
  refine one_ (i := 14) (N := none) b13A7 rfl rfl (one_of HT_.out zG128) zG129 (fun K hK => ?_)
  have hs13 : w11.cell? ⟨gb354, 0, none⟩ = some (.slice none 0 0) := (zi BK354.out 0).trans rfl
  have hfs13 := zm BK354.out 0
  have hns13_0 := NB0_354.out
  have hms13_0 := NB354_0.out
  have hs14 : w11.cell? ⟨gb354, 1, none⟩ = some (.int .i64 0) := (zi BK354.out 1).trans rfl
  have hfs14 := zm BK354.out 1
  have hns14_0 := NB0_354.out
  have hms14_0 := NB354_0.out
  have hs15 : w11.cell? ⟨gb354, 2, none⟩ = some (.int .i64 0) := (zi BK354.out 2).trans rfl
  have hfs15 := zm BK354.out 2
  have hns15_0 := NB0_354.out
  have hms15_0 := NB354_0.out
  refine skip_ (w1 := ?_) (by rfl) rfl ?_ ?_
  rotate_left
  ·go_simp
   rfl
  refine hK.out _ _ ⟨((cell_far (p := ⟨gb354, _, none⟩) NB0_354.out _).trans (((cell_far (p := ⟨gb354, _, none⟩) NB0_354.out _).trans (((cell_far (p := ⟨gb354, _, none⟩) NB0_354.out _).trans (hHeld.1)))))), ((cell_far (p := ⟨gb354, _, none⟩) NB0_354.out _).trans (((cell_far (p := ⟨gb354, _, none⟩) NB0_354.out _).trans (((cell_far (p := ⟨gb354, _, none⟩) NB0_354.out _).trans (hHeld.2.1)))))), ((cell_far (p := ⟨gb354, _, none⟩) NB0_354.out _).trans (((cell_far (p := ⟨gb354, _, none⟩) NB0_354.out _).trans (((cell_far (p := ⟨gb354, _, none⟩) NB0_354.out _).trans (hHeld.2.2.1)))))), ((cell_far (p := ⟨gb354, _, none⟩) NB0_354.out _).trans (((cell_far (p := ⟨gb354, _, none⟩) NB0_354.out _).trans (((cell_far (p := ⟨gb354, _, none⟩) NB0_354.out _).trans (hHeld.2.2.2.1)))))), ((cell_far (p := ⟨gb354, _, none⟩) NB0_354.out _).trans (((cell_far (p := ⟨gb354, _, none⟩) NB0_354.out _).trans (((cell_far (p := ⟨gb354, _, none⟩) NB0_354.out _).trans (hHeld.2.2.2.2.1)))))), ((cell_far (p := ⟨gb354, _, none⟩) NB0_354.out _).trans (((cell_far (p := ⟨gb354, _, none⟩) NB0_354.out _).trans (((cell_far (p := ⟨gb354, _, none⟩) NB0_354.out _).trans (hHeld.2.2.2.2.2))))))⟩ (fun hHeld => ?_)
  clear hK K
  refine zP 15 5 b13A8 HT_ ?_
  refine done_ (done_of HT_.out zG128) ?_
  try go_wp2
  have n0_ : Aside0 (Kd.R (Kd.int .i64) 3 (((w11.setCell ⟨gb354, 0, none⟩ (.slice Ao12 t348.length co12)).setCell ⟨gb354, 1, none⟩ (.int .i64 t351)).setCell ⟨gb354, 2, none⟩ (.int .i64 t352)) w0.heap.size (fun k_ => (P0_2_ k_ ∨ w.heap.size ≤ k_) ∧ some k_ ≠ (.slice Ao12 t348.length co12 : Value).ownBlock) u9000_ l0_2) := ⟨by (with_reducible repeat (first | apply zj | apply zk | apply zl)); exact zs (zo (p := ⟨gb354, 2, none⟩) (zo (p := ⟨gb354, 1, none⟩) (zo (p := ⟨gb354, 0, none⟩) (zt HO0_2.out BK354.out zG129) (fun _ hk => hk.2) (.slice Ao12 t348.length co12)) (fun _ hk => hk.2) (.int .i64 t351)) (fun _ hk => hk.2) (.int .i64 t352)) (fun _ hk => ⟨hk.1.1, hk.1.2⟩)⟩
  have n1_ : Aside0 (Kd.R (Kd.int .i64) 3 (((w11.setCell ⟨gb354, 0, none⟩ (.slice Ao12 t348.length co12)).setCell ⟨gb354, 1, none⟩ (.int .i64 t351)).setCell ⟨gb354, 2, none⟩ (.int .i64 t352)) w0.heap.size (fun k_ => (P0_2_ k_ ∨ w.heap.size ≤ k_) ∧ some k_ ≠ (u9000_ : Value).ownBlock) (.slice Ao12 t348.length co12) t348) := ⟨by (with_reducible repeat (first | apply zj | apply zk | apply zl)); exact zs (zo (p := ⟨gb354, 2, none⟩) (zo (p := ⟨gb354, 1, none⟩) (zo (p := ⟨gb354, 0, none⟩) (zt HO350.out BK354.out zG129) (fun _ hk => hk.2) (.slice Ao12 t348.length co12)) (fun _ hk => hk.2) (.int .i64 t351)) (fun _ hk => hk.2) (.int .i64 t352)) (fun _ hk => ⟨hk.1.1, hk.1.2⟩)⟩
  have n2_ : Aside0 ((((w11.setCell ⟨gb354, 0, none⟩ (.slice Ao12 t348.length co12)).setCell ⟨gb354, 1, none⟩ (.int .i64 t351)).setCell ⟨gb354, 2, none⟩ (.int .i64 t352)).heap[gi0]? = some (.cells #[.slice A0_0 l0_0.length c0_0, .slice A0_1 l0_1.length c0_1, u9000_, .int .i64 a0_3, .int .i64 a0_4, .bool true] 136 (0, 0))) := ⟨zH6⟩
  have n3_ : Aside0 ((((w11.setCell ⟨gb354, 0, none⟩ (.slice Ao12 t348.length co12)).setCell ⟨gb354, 1, none⟩ (.int .i64 t351)).setCell ⟨gb354, 2, none⟩ (.int .i64 t352)).heap[gb354]? = some (.cells #[.slice Ao12 t348.length co12, .int .i64 t351, .int .i64 t352] 52 (0, 0))) := ⟨by (with_reducible repeat (first | refine zc ?_ _ | refine zd ?_ | refine zb ?_ _)); refine zw (cs := #[.slice Ao12 t348.length co12, .int .i64 t351, .int .i64 0]) ?_ 2 _ rfl; (with_reducible repeat (first | refine zc ?_ _ | refine zd ?_ | refine zb ?_ _)); refine zw (cs := #[.slice Ao12 t348.length co12, .int .i64 0, .int .i64 0]) ?_ 1 _ rfl; (with_reducible repeat (first | refine zc ?_ _ | refine zd ?_ | refine zb ?_ _)); refine zw (cs := #[.slice none 0 0, .int .i64 0, .int .i64 0]) ?_ 0 _ rfl; (with_reducible repeat (first | refine zc ?_ _ | refine zd ?_ | refine zb ?_ _)); exact BK354.out⟩
  have n4_ : Aside0 (Kept w (((w11.setCell ⟨gb354, 0, none⟩ (.slice Ao12 t348.length co12)).setCell ⟨gb354, 1, none⟩ (.int .i64 t351)).setCell ⟨gb354, 2, none⟩ (.int .i64 t352)) (fun k_ => (P0_2_ k_) ∨ k_ = gi0)) := ⟨zH33⟩
  have n5_ : Aside0 (Below w0.heap.size w0 (((w11.setCell ⟨gb354, 0, none⟩ (.slice Ao12 t348.length co12)).setCell ⟨gb354, 1, none⟩ (.int .i64 t351)).setCell ⟨gb354, 2, none⟩ (.int .i64 t352))) := ⟨zH59⟩
  (try clear HO0_2)
  (try clear HO350)
  (try clear BK0)
  (try clear BK354)
  (try clear HK)
  (try clear HB)
  generalize (((w11.setCell ⟨gb354, 0, none⟩ (.slice Ao12 t348.length co12)).setCell ⟨gb354, 1, none⟩ (.int .i64 t351)).setCell ⟨gb354, 2, none⟩ (.int .i64 t352)) = w16 at n0_ n1_ n2_ n3_ n4_ n5_ ⊢
  have HO0_2 := n0_
  have HO350 := n1_
  have BK0 := n2_
  have BK354 := n3_
  have HK := n4_
  have HB := n5_
  clear n0_ n1_ n2_ n3_ n4_ n5_
  obtain ⟨n0_, n1_, n2_, n3_, n4_, n5_⟩ := zD6 (zl HO0_2.out) (zl HO350.out) (zd BK0.out) (zd BK354.out) (Kept.drew HK.out) (zg HB.out)
  clear HO0_2 HO350 BK0 BK354 HK HB
  have HO0_2 := n0_
  have HO350 := n1_
  have BK0 := n2_
  have BK354 := n3_
  have HK := n4_
  have HB := n5_
  clear n0_ n1_ n2_ n3_ n4_ n5_
  refine start_ (n := 35) (S := fun w' => w'.cell? ⟨gi0, 0, none⟩ = some (.slice A0_0 l0_0.length c0_0) ∧ w'.cell? ⟨gi0, 1, none⟩ = some (.slice A0_1 l0_1.length c0_1) ∧ w'.cell? ⟨gi0, 2, none⟩ = some (u9000_) ∧ w'.cell? ⟨gi0, 3, none⟩ = some (.int .i64 a0_3) ∧ w'.cell? ⟨gi0, 4, none⟩ = some (.int .i64 a0_4) ∧ w'.cell? ⟨gi0, 5, none⟩ = some (.bool true) ∧ w'.cell? ⟨gb354, 0, none⟩ = some (.slice Ao12 t348.length co12) ∧ w'.cell? ⟨gb354, 1, none⟩ = some (.int .i64 t351) ∧ w'.cell? ⟨gb354, 2, none⟩ = some (.int .i64 t352)) (ds := []) b13A21 zG128 rfl rfl ⟨(zi BK0.out 0).trans rfl, (zi BK0.out 1).trans rfl, (zi BK0.out 2).trans rfl, (zi BK0.out 3).trans rfl, (zi BK0.out 4).trans rfl, (zi BK0.out 5).trans rfl, (zi BK354.out 0).trans rfl, (zi BK354.out 1).trans rfl, (zi BK354.out 2).trans rfl⟩ (fun hHeld => ?_); refine with_tabW spec_l23Search_try.tab2 spec_l23Search_try.bits2 (fun HT_ HW_ => ?_)
  generalize w16.drew = w17 at HO0_2 HO350 BK0 BK354 HK HB hHeld ⊢
  refine zP 0 28 b13A22 HT_ ?_
  refine zP 1 29 b13A23 HT_ ?_
  refine zP 2 30 b13A24 HT_ ?_
  refine zQ 3 31 b13A25 HT_ HW_ hHeld ?_
  refine zP 4 32 b13A26 HT_ ?_
  refine zP 5 33 b13A27 HT_ ?_
  refine zP 6 34 b13A28 HT_ ?_
  refine zP 8 36 b13A45 HT_ ?_
  refine zP 9 37 b13A46 HT_ ?_
  refine zP 10 38 b13A47 HT_ ?_
  refine zP 11 39 b13A48 HT_ ?_
  refine zQ 7 35 b13A29 HT_ HW_ hHeld ?_
  refine zQ 12 40 b13A30 HT_ HW_ hHeld ?_
  refine zP 13 41 b13A31 HT_ ?_
  refine zP 14 42 b13A32 HT_ ?_
  refine zP 15 43 b13A33 HT_ ?_
  refine zU 16 44 b13A34 HT_ ?_
  refine zU 17 45 b13A57 HT_ ?_
  refine zU 18 46 b13A58 HT_ ?_
  refine zU 19 47 b13A59 HT_ ?_
  refine zU 20 48 b13A60 HT_ ?_
  refine zU 21 49 b13A35 HT_ ?_
  refine zU 22 50 b13A36 HT_ ?_
  refine zU 23 51 b13A37 HT_ ?_
  refine zU 24 52 b13A38 HT_ ?_
  refine zU 25 53 b13A39 HT_ ?_
  refine zU 26 54 b13A49 HT_ ?_
  refine zU 27 55 b13A50 HT_ ?_
  refine zU 28 56 b13A51 HT_ ?_
  refine zU 29 57 b13A52 HT_ ?_
  refine zU 30 58 b13A40 HT_ ?_
  refine zU 31 59 b13A41 HT_ ?_
  refine zU 32 60 b13A42 HT_ ?_
  refine zU 33 61 b13A43 HT_ ?_
  refine zP 34 62 b13A44 HT_ ?_
  refine done_ (done_of HT_.out zG128) ?_
  have hnb18 := NB354_0.out
  have hnc18 := NB0_354.out
  obtain ⟨hcz19_0, hcz19_1, hcz19_2, hfz19_0, hfz19_1, hfz19_2⟩ := zB3 BK354.out
  obtain ⟨hcz20_0, hcz20_1, hcz20_2, hcz20_3, hcz20_4, hcz20_5, hfz20_0, hfz20_1, hfz20_2, hfz20_3, hfz20_4, hfz20_5⟩ := zB6 BK0.out
  try go_wp2
  first | go_end0 | ((try simp only [Exit.inBlock, Exit.then]); refine bodyPost_ret (results_none rfl _ _ _) rfl ?_)
  exact ⟨_, zH111, by (with_reducible repeat (first | apply zj | apply zk | apply zl)); exact zs (zo (p := ⟨gi0, 5, none⟩) (zo (p := ⟨gi0, 4, none⟩) (zo (p := ⟨gi0, 3, none⟩) (zo (p := ⟨gi0, 2, none⟩) (zt HO350.out BK0.out zG129) (fun _ hk => hk.2) (.slice Ao12 t348.length co12)) (fun _ hk => hk.2) (.int .i64 t351)) (fun _ hk => hk.2) (.int .i64 t352)) (fun _ hk => hk.2) (.bool true)) (fun _ hk => hk.1.1), (by (with_reducible repeat (first | refine zc ?_ _ | refine zd ?_ | refine zb ?_ _)); refine zw (cs := #[.slice A0_0 l0_0.length c0_0, .slice A0_1 l0_1.length c0_1, .slice Ao12 t348.length co12, .int .i64 t351, .int .i64 t352, .bool true]) ?_ 5 _ rfl; (with_reducible repeat (first | refine zc ?_ _ | refine zd ?_ | refine zb ?_ _)); refine zw (cs := #[.slice A0_0 l0_0.length c0_0, .slice A0_1 l0_1.length c0_1, .slice Ao12 t348.length co12, .int .i64 t351, .int .i64 a0_4, .bool true]) ?_ 4 _ rfl; (with_reducible repeat (first | refine zc ?_ _ | refine zd ?_ | refine zb ?_ _)); refine zw (cs := #[.slice A0_0 l0_0.length c0_0, .slice A0_1 l0_1.length c0_1, .slice Ao12 t348.length co12, .int .i64 a0_3, .int .i64 a0_4, .bool true]) ?_ 3 _ rfl; (with_reducible repeat (first | refine zc ?_ _ | refine zd ?_ | refine zb ?_ _)); refine zw (cs := #[.slice A0_0 l0_0.length c0_0, .slice A0_1 l0_1.length c0_1, u9000_, .int .i64 a0_3, .int .i64 a0_4, .bool true]) ?_ 2 _ rfl; (with_reducible repeat (first | refine zc ?_ _ | refine zd ?_ | refine zb ?_ _)); exact BK0.out), zH59, zH33⟩
 rw [if_neg c6] at H
 have c6b0 := decide_eq_false c6
 clear c6
 by_cases c21 : t352 = a0_4
 rotate_left
 ·rw [if_neg c21] at H
  have c21b0 : (t352 == a0_4) = false := beq_eq_false_iff_ne.mpr c21
  have c21b1 : (t352 != a0_4) = true := bne_iff_ne.mpr c21
  simp only [Option.some.injEq, Prod.mk.injEq] at H
  obtain ⟨rfl, rfl, rfl, rfl⟩ := H
  obtain ⟨hcz48_0, hcz48_1, hcz48_2, hcz48_3, hcz48_4, hcz48_5, hfz48_0, hfz48_1, hfz48_2, hfz48_3, hfz48_4, hfz48_5⟩ := zB6 BK0.out
  go_enter Try.func91, Try.ntmps91
  try go_wp2
  obtain ⟨n0_, n1_, n2_, n3_⟩ := zD4 (zl HO0_2.out) (zd BK0.out) (Kept.drew HK.out) (zg HB.out)
  clear HO0_2 BK0 HK HB
  have HO0_2 := n0_
  have BK0 := n1_
  have HK := n2_
  have HB := n3_
  clear n0_ n1_ n2_ n3_
  refine start_ (n := 16) (S := fun w' => w'.cell? ⟨gi0, 0, none⟩ = some (.slice A0_0 l0_0.length c0_0) ∧ w'.cell? ⟨gi0, 1, none⟩ = some (.slice A0_1 l0_1.length c0_1) ∧ w'.cell? ⟨gi0, 2, none⟩ = some (u9000_) ∧ w'.cell? ⟨gi0, 3, none⟩ = some (.int .i64 a0_3) ∧ w'.cell? ⟨gi0, 4, none⟩ = some (.int .i64 a0_4) ∧ w'.cell? ⟨gi0, 5, none⟩ = some (.bool true)) (ds := []) b13A1 zG128 rfl rfl ⟨(zi BK0.out 0).trans rfl, (zi BK0.out 1).trans rfl, (zi BK0.out 2).trans rfl, (zi BK0.out 3).trans rfl, (zi BK0.out 4).trans rfl, (zi BK0.out 5).trans rfl⟩ (fun hHeld => ?_); refine with_tabW spec_l23Search_try.tab1 spec_l23Search_try.bits1 (fun HT_ HW_ => ?_)
  generalize w.drew = w49 at HO0_2 BK0 HK HB hHeld ⊢
  refine zP 0 16 b13A2 HT_ ?_
  refine zP 1 17 b13A3 HT_ ?_
  refine zP 2 18 b13A4 HT_ ?_
  refine zP 4 20 b13A5 HT_ ?_
  refine zP 5 21 b13A9 HT_ ?_
  refine zP 6 22 b13A10 HT_ ?_
  refine zP 8 24 b13A11 HT_ ?_
  refine zQ 3 19 b13A12 HT_ HW_ hHeld ?_
  refine zQ 7 23 b13A13 HT_ HW_ hHeld ?_
  refine join_ (σ := Value × Nat) 2 b13A0 (fun s_ => [(25, .tuple #[.agg #[s_.1, .int .i64 t351, .int .i64 t352], .int .i64 t353]), (4, .pointer (some ⟨s_.2, 0, none⟩)), (15, .tuple #[.agg #[s_.1, .int .i64 t351, .int .i64 t352], .int .i64 t353]), (26, .agg #[s_.1, .int .i64 t351, .int .i64 t352]), (27, .int .i64 t353)]) (fun s_ w' => (w'.cell? ⟨gi0, 0, none⟩ = some (.slice A0_0 l0_0.length c0_0) ∧ w'.cell? ⟨gi0, 1, none⟩ = some (.slice A0_1 l0_1.length c0_1) ∧ w'.cell? ⟨gi0, 2, none⟩ = some (u9000_) ∧ w'.cell? ⟨gi0, 3, none⟩ = some (.int .i64 a0_3) ∧ w'.cell? ⟨gi0, 4, none⟩ = some (.int .i64 a0_4) ∧ w'.cell? ⟨gi0, 5, none⟩ = some (.bool true)) ∧ (Kd.R (Kd.int .i64) 3 w' w0.heap.size (fun k_ => (P0_2_ k_ ∨ w.heap.size ≤ k_) ∧ some k_ ≠ (s_.1 : Value).ownBlock) u9000_ l0_2) ∧ (Kd.R (Kd.int .i64) 3 w' w0.heap.size (fun k_ => (P0_2_ k_ ∨ w.heap.size ≤ k_) ∧ some k_ ≠ (u9000_ : Value).ownBlock) s_.1 t348) ∧ (w'.heap[gi0]? = some (.cells #[.slice A0_0 l0_0.length c0_0, .slice A0_1 l0_1.length c0_1, u9000_, .int .i64 a0_3, .int .i64 a0_4, .bool true] 136 (0, 0))) ∧ (w'.heap[s_.2]? = some (.cells #[.slice none 0 0, .int .i64 0, .int .i64 0] 52 (0, 0))) ∧ (w.heap.size ≤ s_.2) ∧ (w0.heap.size ≤ s_.2) ∧ (gi0 ≠ s_.2) ∧ (s_.2 ≠ gi0) ∧ (Kept w w' (fun k_ => (P0_2_ k_) ∨ k_ = gi0)) ∧ (Below w0.heap.size w0 w')) ?_ ?_
  rotate_left
  ·intro hCont
   refine two_ (i := 9) (j := 13) (Ni := some 25) (Nj := some 4) b13A14 b13A15 rfl rfl rfl rfl (two_of HT_.out zG128) zG129 zG129 (fun K hK => ?_) (fun K hK => ?_)
   ·skip
    refine goes_ Try.func135 zG128 rfl #[.slice A0_0 l0_0.length c0_0, .slice A0_1 l0_1.length c0_1, .slice A1 l1.length c1] (by rfl) rfl rfl zG97 ?_
    with_reducible refine (spec_SourceOf.calls k _ _ l0_0 _ _ l0_1 _ _ l1 t348 t351 t352 t353 _ ?side1 ?side2 ?side3 ?side4 ?side5 ?side6 A4.out).mono ?_
    (case side1 => exact zah HR0_0.out zG93)
    (case side2 => exact HC0_0.out)
    (case side3 => exact zah HR0_1.out zG93)
    (case side4 => exact HC0_1.out)
    (case side5 => exact zah HR1.out zG93)
    (case side6 => exact zH127)
    rintro e w50 ⟨v349, rfl, ho0, hb⟩
    refine ⟨_, rfl, ?_⟩
    obtain ⟨n0_, n1_, n2_, n3_, n4_⟩ := zD5 (zal zG123 (zaj ho0) hb) (zam (zap (zbb (M := fun k_ => (P0_2_ k_ ∨ w.heap.size ≤ k_)) ho0 zG87 (fun k_ h_ => .inr h_)) (zaf zG123)) (zq zG101)) (zp (g := gi0) (o := .cells #[.slice A0_0 l0_0.length c0_0, .slice A0_1 l0_1.length c0_1, u9000_, .int .i64 a0_3, .int .i64 a0_4, .bool true] 136 (0, 0)) zG112 hb) (Kept.below (S := (fun k_ => (P0_2_ k_) ∨ k_ = gi0)) zG93 hb) (zu zG101 hb)
    clear HO0_2 BK0 HK HB
    have HO0_2 := n0_
    have HO350 := n1_
    have BK0 := n2_
    have HK := n3_
    have HB := n4_
    clear n0_ n1_ n2_ n3_ n4_
    (try clear hb)
    (try clear hb2)
    (try clear hk)
    (try clear hi)
    (try clear ho0)
    refine hK.out _ _ ⟨(zi BK0.out 0).trans rfl, (zi BK0.out 1).trans rfl, (zi BK0.out 2).trans rfl, (zi BK0.out 3).trans rfl, (zi BK0.out 4).trans rfl, (zi BK0.out 5).trans rfl⟩ (fun hHeld => ?_)
    clear hK K
    refine norm_ (a' := ?_) ?_ ?_
    rotate_left
    ·show Act.put _ (some 25) _ = _
     simp only [Act.put, List.setIfInBounds_toArray, List.set_cons_zero, List.set_cons_succ, i64_w, i32_w]
     rfl
    refine zP 10 15 b13A16 HT_ ?_
    refine zP 11 26 b13A17 HT_ ?_
    refine zP 12 27 b13A6 HT_ ?_
    refine one_ (i := 13) (N := some 4) b13A0 rfl rfl (one_of HT_.out zG128) zG129 (fun K hK => ?_)
    refine box_step ?hg (N := 4) ?hd (cs := #[.slice none 0 0, .int .i64 0, .int .i64 0]) (t := 52) ?hr ?_; (case hd => rfl); (case hg => rfl); (case hr => exact zH119)
    intro gb354 hg w51 hbox hb
    obtain ⟨n0_, n1_, n2_, n3_, n4_, n5_, n6_, n7_, n8_, n9_⟩ := zD10 (zv zG123 hb) (zv zK244 hb) (zp (g := gi0) (o := .cells #[.slice A0_0 l0_0.length c0_0, .slice A0_1 l0_1.length c0_1, u9000_, .int .i64 a0_3, .int .i64 a0_4, .bool true] 136 (0, 0)) zG112 hb) (Kept.below (S := (fun k_ => (P0_2_ k_) ∨ k_ = gi0)) zG93 hb) (zu zG101 hb) (hbox) ((by rw [hg]; exact zG87 : w.heap.size ≤ gb354)) ((by rw [hg]; exact (zq zG101) : w0.heap.size ≤ gb354)) ((by rw [hg]; exact Nat.ne_of_lt (zz (g := gi0) (o := .cells #[.slice A0_0 l0_0.length c0_0, .slice A0_1 l0_1.length c0_1, u9000_, .int .i64 a0_3, .int .i64 a0_4, .bool true] 136 (0, 0)) zG112) : gi0 ≠ gb354)) ((by rw [hg]; exact Nat.ne_of_gt (zz (g := gi0) (o := .cells #[.slice A0_0 l0_0.length c0_0, .slice A0_1 l0_1.length c0_1, u9000_, .int .i64 a0_3, .int .i64 a0_4, .bool true] 136 (0, 0)) zG112) : gb354 ≠ gi0))
    clear HO0_2 HO350 BK0 HK HB
    have HO0_2 := n0_
    have HO350 := n1_
    have BK0 := n2_
    have HK := n3_
    have HB := n4_
    have BK354 := n5_
    have GW354 := n6_
    have GE354 := n7_
    have NB0_354 := n8_
    have NB354_0 := n9_
    clear n0_ n1_ n2_ n3_ n4_ n5_ n6_ n7_ n8_ n9_
    clear hb hbox hg
    refine hK.out _ _ ⟨(zi BK0.out 0).trans rfl, (zi BK0.out 1).trans rfl, (zi BK0.out 2).trans rfl, (zi BK0.out 3).trans rfl, (zi BK0.out 4).trans rfl, (zi BK0.out 5).trans rfl⟩ (fun hHeld => ?_)
    clear hK K
    refine norm_ (a' := ?_) ?_ ?_
    rotate_left
    ·show Act.put _ (some 4) _ = _
     simp only [Act.put, List.setIfInBounds_toArray, List.set_cons_zero, List.set_cons_succ, i64_w, i32_w]
     rfl
    exact norm_ zG113 (hCont (v349, gb354) _ ⟨hHeld, zG123, zK226, zG112, zG103, GW354.out, GE354.out, NB0_354.out, NB354_0.out, zG90, zG96⟩)
   ·skip
    refine box_step ?hg (N := 4) ?hd (cs := #[.slice none 0 0, .int .i64 0, .int .i64 0]) (t := 52) ?hr ?_; (case hd => rfl); (case hg => rfl); (case hr => exact zH119)
    intro gb354 hg w50 hbox hb
    obtain ⟨n0_, n1_, n2_, n3_, n4_, n5_, n6_, n7_, n8_⟩ := zD9 (zv zG123 hb) (zp (g := gi0) (o := .cells #[.slice A0_0 l0_0.length c0_0, .slice A0_1 l0_1.length c0_1, u9000_, .int .i64 a0_3, .int .i64 a0_4, .bool true] 136 (0, 0)) zG112 hb) (Kept.below (S := (fun k_ => (P0_2_ k_) ∨ k_ = gi0)) zG93 hb) (zu zG101 hb) (hbox) ((by rw [hg]; exact zG87 : w.heap.size ≤ gb354)) ((by rw [hg]; exact (zq zG101) : w0.heap.size ≤ gb354)) ((by rw [hg]; exact Nat.ne_of_lt (zz (g := gi0) (o := .cells #[.slice A0_0 l0_0.length c0_0, .slice A0_1 l0_1.length c0_1, u9000_, .int .i64 a0_3, .int .i64 a0_4, .bool true] 136 (0, 0)) zG112) : gi0 ≠ gb354)) ((by rw [hg]; exact Nat.ne_of_gt (zz (g := gi0) (o := .cells #[.slice A0_0 l0_0.length c0_0, .slice A0_1 l0_1.length c0_1, u9000_, .int .i64 a0_3, .int .i64 a0_4, .bool true] 136 (0, 0)) zG112) : gb354 ≠ gi0))
    clear HO0_2 BK0 HK HB
    have HO0_2 := n0_
    have BK0 := n1_
    have HK := n2_
    have HB := n3_
    have BK354 := n4_
    have GW354 := n5_
    have GE354 := n6_
    have NB0_354 := n7_
    have NB354_0 := n8_
    clear n0_ n1_ n2_ n3_ n4_ n5_ n6_ n7_ n8_
    clear hb hbox hg
    refine hK.out _ _ ⟨(zi BK0.out 0).trans rfl, (zi BK0.out 1).trans rfl, (zi BK0.out 2).trans rfl, (zi BK0.out 3).trans rfl, (zi BK0.out 4).trans rfl, (zi BK0.out 5).trans rfl⟩ (fun hHeld => ?_)
    clear hK K
    refine norm_ (a' := ?_) ?_ ?_
    rotate_left
    ·show Act.put _ (some 4) _ = _
     simp only [Act.put, List.setIfInBounds_toArray, List.set_cons_zero, List.set_cons_succ, i64_w, i32_w]
     rfl
    refine one_ (i := 9) (N := some 25) b13A18 rfl rfl (one_of HT_.out zG128) zG129 (fun K hK => ?_)
    refine goes_ Try.func135 zG128 rfl #[.slice A0_0 l0_0.length c0_0, .slice A0_1 l0_1.length c0_1, .slice A1 l1.length c1] (by rfl) rfl rfl zG97 ?_
    with_reducible refine (spec_SourceOf.calls k _ _ l0_0 _ _ l0_1 _ _ l1 t348 t351 t352 t353 _ ?side1 ?side2 ?side3 ?side4 ?side5 ?side6 A4.out).mono ?_
    (case side1 => exact zah HR0_0.out zG90)
    (case side2 => exact HC0_0.out)
    (case side3 => exact zah HR0_1.out zG90)
    (case side4 => exact HC0_1.out)
    (case side5 => exact zah HR1.out zG90)
    (case side6 => exact zH127)
    rintro e w51 ⟨v349, rfl, ho0, hb⟩
    refine ⟨_, rfl, ?_⟩
    obtain ⟨n0_, n1_, n2_, n3_, n4_, n5_⟩ := zD6 (zal zG123 (zaj ho0) hb) (zam (zap (zbb (M := fun k_ => (P0_2_ k_ ∨ w.heap.size ≤ k_)) ho0 zK188 (fun k_ h_ => .inr h_)) (zaf zG123)) (zq zG96)) (zp (g := gi0) (o := .cells #[.slice A0_0 l0_0.length c0_0, .slice A0_1 l0_1.length c0_1, u9000_, .int .i64 a0_3, .int .i64 a0_4, .bool true] 136 (0, 0)) zG112 hb) (zp (g := gb354) (o := .cells #[.slice none 0 0, .int .i64 0, .int .i64 0] 52 (0, 0)) zG103 hb) (Kept.below (S := (fun k_ => (P0_2_ k_) ∨ k_ = gi0)) zG90 hb) (zu zG96 hb)
    clear HO0_2 BK0 BK354 HK HB
    have HO0_2 := n0_
    have HO350 := n1_
    have BK0 := n2_
    have BK354 := n3_
    have HK := n4_
    have HB := n5_
    clear n0_ n1_ n2_ n3_ n4_ n5_
    (try clear hb)
    (try clear hb2)
    (try clear hk)
    (try clear hi)
    (try clear ho0)
    refine hK.out _ _ ⟨(zi BK0.out 0).trans rfl, (zi BK0.out 1).trans rfl, (zi BK0.out 2).trans rfl, (zi BK0.out 3).trans rfl, (zi BK0.out 4).trans rfl, (zi BK0.out 5).trans rfl⟩ (fun hHeld => ?_)
    clear hK K
    refine norm_ (a' := ?_) ?_ ?_
    rotate_left
    ·show Act.put _ (some 25) _ = _
     simp only [Act.put, List.setIfInBounds_toArray, List.set_cons_zero, List.set_cons_succ, i64_w, i32_w]
     rfl
    refine zP 10 15 b13A19 HT_ ?_
    refine zP 11 26 b13A20 HT_ ?_
    refine zP 12 27 b13A0 HT_ ?_
    exact norm_ zG113 (hCont (v349, gb354) _ ⟨hHeld, zG123, zK226, zG112, zG103, GW354.out, GE354.out, NB0_354.out, NB354_0.out, zG90, zG96⟩)
  rintro ⟨v349, gb354⟩ w52 ⟨hS_, h0_, h1_, h2_, h3_, h4_, h5_, h6_, h7_, h8_, h9_⟩
  have n0_ : Aside0 (Kd.R (Kd.int .i64) 3 w52 w0.heap.size (fun k_ => (P0_2_ k_ ∨ w.heap.size ≤ k_) ∧ some k_ ≠ (v349 : Value).ownBlock) u9000_ l0_2) := ⟨h0_⟩
  have n1_ : Aside0 (Kd.R (Kd.int .i64) 3 w52 w0.heap.size (fun k_ => (P0_2_ k_ ∨ w.heap.size ≤ k_) ∧ some k_ ≠ (u9000_ : Value).ownBlock) v349 t348) := ⟨h1_⟩
  have n2_ : Aside0 (w52.heap[gi0]? = some (.cells #[.slice A0_0 l0_0.length c0_0, .slice A0_1 l0_1.length c0_1, u9000_, .int .i64 a0_3, .int .i64 a0_4, .bool true] 136 (0, 0))) := ⟨h2_⟩
  have n3_ : Aside0 (w52.heap[gb354]? = some (.cells #[.slice none 0 0, .int .i64 0, .int .i64 0] 52 (0, 0))) := ⟨h3_⟩
  have n4_ : Aside0 (w.heap.size ≤ gb354) := ⟨h4_⟩
  have n5_ : Aside0 (w0.heap.size ≤ gb354) := ⟨h5_⟩
  have n6_ : Aside0 (gi0 ≠ gb354) := ⟨h6_⟩
  have n7_ : Aside0 (gb354 ≠ gi0) := ⟨h7_⟩
  have n8_ : Aside0 (Kept w w52 (fun k_ => (P0_2_ k_) ∨ k_ = gi0)) := ⟨h8_⟩
  have n9_ : Aside0 (Below w0.heap.size w0 w52) := ⟨h9_⟩
  clear HO0_2
  clear BK0
  clear HK
  clear HB
  clear h0_ h1_ h2_ h3_ h4_ h5_ h6_ h7_ h8_ h9_
  have HO0_2 := n0_
  have HO350 := n1_
  have BK0 := n2_
  have BK354 := n3_
  have GW354 := n4_
  have GE354 := n5_
  have NB0_354 := n6_
  have NB354_0 := n7_
  have HK := n8_
  have HB := n9_
  clear n0_ n1_ n2_ n3_ n4_ n5_ n6_ n7_ n8_ n9_
  have hHeld : w52.cell? ⟨gi0, 0, none⟩ = some (.slice A0_0 l0_0.length c0_0) ∧ w52.cell? ⟨gi0, 1, none⟩ = some (.slice A0_1 l0_1.length c0_1) ∧ w52.cell? ⟨gi0, 2, none⟩ = some (u9000_) ∧ w52.cell? ⟨gi0, 3, none⟩ = some (.int .i64 a0_3) ∧ w52.cell? ⟨gi0, 4, none⟩ = some (.int .i64 a0_4) ∧ w52.cell? ⟨gi0, 5, none⟩ = some (.bool true) := hS_
  obtain ⟨Ao53, co53, eo53⟩ := zan HO350.out
  (first | subst eo53 | (injection eo53 with f1_ f2_ f3_; have f4_ := f1_.symm; have f5_ := f3_.symm; clear f1_ f2_ f3_; subst f4_; subst f5_))
  refine norm_ (a' := ?_) ?_ ?_
  rotate_left
  ·simp only [putAll, Act.put, List.setIfInBounds_toArray, List.set_cons_zero, List.set_cons_succ]
   rfl
  refine one_ (i := 14) (N := none) b13A7 rfl rfl (one_of HT_.out zG128) zG129 (fun K hK => ?_)
  have hs54 : w52.cell? ⟨gb354, 0, none⟩ = some (.slice none 0 0) := (zi BK354.out 0).trans rfl
  have hfs54 := zm BK354.out 0
  have hns54_0 := NB0_354.out
  have hms54_0 := NB354_0.out
  have hs55 : w52.cell? ⟨gb354, 1, none⟩ = some (.int .i64 0) := (zi BK354.out 1).trans rfl
  have hfs55 := zm BK354.out 1
  have hns55_0 := NB0_354.out
  have hms55_0 := NB354_0.out
  have hs56 : w52.cell? ⟨gb354, 2, none⟩ = some (.int .i64 0) := (zi BK354.out 2).trans rfl
  have hfs56 := zm BK354.out 2
  have hns56_0 := NB0_354.out
  have hms56_0 := NB354_0.out
  refine skip_ (w1 := ?_) (by rfl) rfl ?_ ?_
  rotate_left
  ·go_simp
   rfl
  refine hK.out _ _ ⟨((cell_far (p := ⟨gb354, _, none⟩) NB0_354.out _).trans (((cell_far (p := ⟨gb354, _, none⟩) NB0_354.out _).trans (((cell_far (p := ⟨gb354, _, none⟩) NB0_354.out _).trans (hHeld.1)))))), ((cell_far (p := ⟨gb354, _, none⟩) NB0_354.out _).trans (((cell_far (p := ⟨gb354, _, none⟩) NB0_354.out _).trans (((cell_far (p := ⟨gb354, _, none⟩) NB0_354.out _).trans (hHeld.2.1)))))), ((cell_far (p := ⟨gb354, _, none⟩) NB0_354.out _).trans (((cell_far (p := ⟨gb354, _, none⟩) NB0_354.out _).trans (((cell_far (p := ⟨gb354, _, none⟩) NB0_354.out _).trans (hHeld.2.2.1)))))), ((cell_far (p := ⟨gb354, _, none⟩) NB0_354.out _).trans (((cell_far (p := ⟨gb354, _, none⟩) NB0_354.out _).trans (((cell_far (p := ⟨gb354, _, none⟩) NB0_354.out _).trans (hHeld.2.2.2.1)))))), ((cell_far (p := ⟨gb354, _, none⟩) NB0_354.out _).trans (((cell_far (p := ⟨gb354, _, none⟩) NB0_354.out _).trans (((cell_far (p := ⟨gb354, _, none⟩) NB0_354.out _).trans (hHeld.2.2.2.2.1)))))), ((cell_far (p := ⟨gb354, _, none⟩) NB0_354.out _).trans (((cell_far (p := ⟨gb354, _, none⟩) NB0_354.out _).trans (((cell_far (p := ⟨gb354, _, none⟩) NB0_354.out _).trans (hHeld.2.2.2.2.2))))))⟩ (fun hHeld => ?_)
  clear hK K
  refine zP 15 5 b13A8 HT_ ?_
  refine done_ (done_of HT_.out zG128) ?_
  try go_wp2
  have n0_ : Aside0 (Kd.R (Kd.int .i64) 3 (((w52.setCell ⟨gb354, 0, none⟩ (.slice Ao53 t348.length co53)).setCell ⟨gb354, 1, none⟩ (.int .i64 t351)).setCell ⟨gb354, 2, none⟩ (.int .i64 t352)) w0.heap.size (fun k_ => (P0_2_ k_ ∨ w.heap.size ≤ k_) ∧ some k_ ≠ (.slice Ao53 t348.length co53 : Value).ownBlock) u9000_ l0_2) := ⟨by (with_reducible repeat (first | apply zj | apply zk | apply zl)); exact zs (zo (p := ⟨gb354, 2, none⟩) (zo (p := ⟨gb354, 1, none⟩) (zo (p := ⟨gb354, 0, none⟩) (zt HO0_2.out BK354.out zG129) (fun _ hk => hk.2) (.slice Ao53 t348.length co53)) (fun _ hk => hk.2) (.int .i64 t351)) (fun _ hk => hk.2) (.int .i64 t352)) (fun _ hk => ⟨hk.1.1, hk.1.2⟩)⟩
  have n1_ : Aside0 (Kd.R (Kd.int .i64) 3 (((w52.setCell ⟨gb354, 0, none⟩ (.slice Ao53 t348.length co53)).setCell ⟨gb354, 1, none⟩ (.int .i64 t351)).setCell ⟨gb354, 2, none⟩ (.int .i64 t352)) w0.heap.size (fun k_ => (P0_2_ k_ ∨ w.heap.size ≤ k_) ∧ some k_ ≠ (u9000_ : Value).ownBlock) (.slice Ao53 t348.length co53) t348) := ⟨by (with_reducible repeat (first | apply zj | apply zk | apply zl)); exact zs (zo (p := ⟨gb354, 2, none⟩) (zo (p := ⟨gb354, 1, none⟩) (zo (p := ⟨gb354, 0, none⟩) (zt HO350.out BK354.out zG129) (fun _ hk => hk.2) (.slice Ao53 t348.length co53)) (fun _ hk => hk.2) (.int .i64 t351)) (fun _ hk => hk.2) (.int .i64 t352)) (fun _ hk => ⟨hk.1.1, hk.1.2⟩)⟩
  have n2_ : Aside0 ((((w52.setCell ⟨gb354, 0, none⟩ (.slice Ao53 t348.length co53)).setCell ⟨gb354, 1, none⟩ (.int .i64 t351)).setCell ⟨gb354, 2, none⟩ (.int .i64 t352)).heap[gi0]? = some (.cells #[.slice A0_0 l0_0.length c0_0, .slice A0_1 l0_1.length c0_1, u9000_, .int .i64 a0_3, .int .i64 a0_4, .bool true] 136 (0, 0))) := ⟨zH6⟩
  have n3_ : Aside0 ((((w52.setCell ⟨gb354, 0, none⟩ (.slice Ao53 t348.length co53)).setCell ⟨gb354, 1, none⟩ (.int .i64 t351)).setCell ⟨gb354, 2, none⟩ (.int .i64 t352)).heap[gb354]? = some (.cells #[.slice Ao53 t348.length co53, .int .i64 t351, .int .i64 t352] 52 (0, 0))) := ⟨by (with_reducible repeat (first | refine zc ?_ _ | refine zd ?_ | refine zb ?_ _)); refine zw (cs := #[.slice Ao53 t348.length co53, .int .i64 t351, .int .i64 0]) ?_ 2 _ rfl; (with_reducible repeat (first | refine zc ?_ _ | refine zd ?_ | refine zb ?_ _)); refine zw (cs := #[.slice Ao53 t348.length co53, .int .i64 0, .int .i64 0]) ?_ 1 _ rfl; (with_reducible repeat (first | refine zc ?_ _ | refine zd ?_ | refine zb ?_ _)); refine zw (cs := #[.slice none 0 0, .int .i64 0, .int .i64 0]) ?_ 0 _ rfl; (with_reducible repeat (first | refine zc ?_ _ | refine zd ?_ | refine zb ?_ _)); exact BK354.out⟩
  have n4_ : Aside0 (Kept w (((w52.setCell ⟨gb354, 0, none⟩ (.slice Ao53 t348.length co53)).setCell ⟨gb354, 1, none⟩ (.int .i64 t351)).setCell ⟨gb354, 2, none⟩ (.int .i64 t352)) (fun k_ => (P0_2_ k_) ∨ k_ = gi0)) := ⟨zH33⟩
  have n5_ : Aside0 (Below w0.heap.size w0 (((w52.setCell ⟨gb354, 0, none⟩ (.slice Ao53 t348.length co53)).setCell ⟨gb354, 1, none⟩ (.int .i64 t351)).setCell ⟨gb354, 2, none⟩ (.int .i64 t352))) := ⟨zH59⟩
  (try clear HO0_2)
  (try clear HO350)
  (try clear BK0)
  (try clear BK354)
  (try clear HK)
  (try clear HB)
  generalize (((w52.setCell ⟨gb354, 0, none⟩ (.slice Ao53 t348.length co53)).setCell ⟨gb354, 1, none⟩ (.int .i64 t351)).setCell ⟨gb354, 2, none⟩ (.int .i64 t352)) = w57 at n0_ n1_ n2_ n3_ n4_ n5_ ⊢
  have HO0_2 := n0_
  have HO350 := n1_
  have BK0 := n2_
  have BK354 := n3_
  have HK := n4_
  have HB := n5_
  clear n0_ n1_ n2_ n3_ n4_ n5_
  obtain ⟨n0_, n1_, n2_, n3_, n4_, n5_⟩ := zD6 (zl HO0_2.out) (zl HO350.out) (zd BK0.out) (zd BK354.out) (Kept.drew HK.out) (zg HB.out)
  clear HO0_2 HO350 BK0 BK354 HK HB
  have HO0_2 := n0_
  have HO350 := n1_
  have BK0 := n2_
  have BK354 := n3_
  have HK := n4_
  have HB := n5_
  clear n0_ n1_ n2_ n3_ n4_ n5_
  refine start_ (n := 35) (S := fun w' => w'.cell? ⟨gi0, 0, none⟩ = some (.slice A0_0 l0_0.length c0_0) ∧ w'.cell? ⟨gi0, 1, none⟩ = some (.slice A0_1 l0_1.length c0_1) ∧ w'.cell? ⟨gi0, 2, none⟩ = some (u9000_) ∧ w'.cell? ⟨gi0, 3, none⟩ = some (.int .i64 a0_3) ∧ w'.cell? ⟨gi0, 4, none⟩ = some (.int .i64 a0_4) ∧ w'.cell? ⟨gi0, 5, none⟩ = some (.bool true) ∧ w'.cell? ⟨gb354, 0, none⟩ = some (.slice Ao53 t348.length co53) ∧ w'.cell? ⟨gb354, 1, none⟩ = some (.int .i64 t351) ∧ w'.cell? ⟨gb354, 2, none⟩ = some (.int .i64 t352)) (ds := []) b13A21 zG128 rfl rfl ⟨(zi BK0.out 0).trans rfl, (zi BK0.out 1).trans rfl, (zi BK0.out 2).trans rfl, (zi BK0.out 3).trans rfl, (zi BK0.out 4).trans rfl, (zi BK0.out 5).trans rfl, (zi BK354.out 0).trans rfl, (zi BK354.out 1).trans rfl, (zi BK354.out 2).trans rfl⟩ (fun hHeld => ?_); refine with_tabW spec_l23Search_try.tab2 spec_l23Search_try.bits2 (fun HT_ HW_ => ?_)
  generalize w57.drew = w58 at HO0_2 HO350 BK0 BK354 HK HB hHeld ⊢
  refine zP 0 28 b13A22 HT_ ?_
  refine zP 1 29 b13A23 HT_ ?_
  refine zP 2 30 b13A24 HT_ ?_
  refine zQ 3 31 b13A25 HT_ HW_ hHeld ?_
  refine zP 4 32 b13A26 HT_ ?_
  refine zP 5 33 b13A27 HT_ ?_
  refine zP 6 34 b13A28 HT_ ?_
  refine zP 8 36 b13A45 HT_ ?_
  refine zP 9 37 b13A46 HT_ ?_
  refine zP 10 38 b13A47 HT_ ?_
  refine zP 11 39 b13A48 HT_ ?_
  refine zQ 7 35 b13A29 HT_ HW_ hHeld ?_
  refine zQ 12 40 b13A30 HT_ HW_ hHeld ?_
  refine zP 13 41 b13A31 HT_ ?_
  refine zP 14 42 b13A32 HT_ ?_
  refine zP 15 43 b13A33 HT_ ?_
  refine zP 16 44 b13A34 HT_ ?_
  refine zP 18 46 b13A53 HT_ ?_
  refine zP 19 47 b13A54 HT_ ?_
  refine zP 20 48 b13A55 HT_ ?_
  refine zP 21 49 b13A56 HT_ ?_
  refine zQ 17 45 b13A35 HT_ HW_ hHeld ?_
  refine zQ 22 50 b13A36 HT_ HW_ hHeld ?_
  refine zP 23 51 b13A37 HT_ ?_
  refine zP 24 52 b13A38 HT_ ?_
  refine zU 25 53 b13A39 HT_ ?_
  refine zU 26 54 b13A49 HT_ ?_
  refine zU 27 55 b13A50 HT_ ?_
  refine zU 28 56 b13A51 HT_ ?_
  refine zU 29 57 b13A52 HT_ ?_
  refine zU 30 58 b13A40 HT_ ?_
  refine zU 31 59 b13A41 HT_ ?_
  refine zU 32 60 b13A42 HT_ ?_
  refine zP 33 61 b13A43 HT_ ?_
  refine zP 34 62 b13A44 HT_ ?_
  refine done_ (done_of HT_.out zG128) ?_
  try go_wp2
  first | go_end0 | ((try simp only [Exit.inBlock, Exit.then]); refine bodyPost_ret (results_none rfl _ _ _) rfl ?_)
  exact zH1
 rw [if_pos c21] at H
 have c21b0 : (t352 == a0_4) = true := beq_iff_eq.mpr c21
 have c21b1 : (t352 != a0_4) = false := bne_eq_false_iff_eq.mpr c21
 clear c21
 by_cases c22 : t351 < a0_3
 rotate_left
 ·rw [if_neg c22] at H
  have c22b0 := decide_eq_false c22
  clear c22
  simp only [Option.some.injEq, Prod.mk.injEq] at H
  obtain ⟨rfl, rfl, rfl, rfl⟩ := H
  obtain ⟨hcz37_0, hcz37_1, hcz37_2, hcz37_3, hcz37_4, hcz37_5, hfz37_0, hfz37_1, hfz37_2, hfz37_3, hfz37_4, hfz37_5⟩ := zB6 BK0.out
  go_enter Try.func91, Try.ntmps91
  try go_wp2
  obtain ⟨n0_, n1_, n2_, n3_⟩ := zD4 (zl HO0_2.out) (zd BK0.out) (Kept.drew HK.out) (zg HB.out)
  clear HO0_2 BK0 HK HB
  have HO0_2 := n0_
  have BK0 := n1_
  have HK := n2_
  have HB := n3_
  clear n0_ n1_ n2_ n3_
  refine start_ (n := 16) (S := fun w' => w'.cell? ⟨gi0, 0, none⟩ = some (.slice A0_0 l0_0.length c0_0) ∧ w'.cell? ⟨gi0, 1, none⟩ = some (.slice A0_1 l0_1.length c0_1) ∧ w'.cell? ⟨gi0, 2, none⟩ = some (u9000_) ∧ w'.cell? ⟨gi0, 3, none⟩ = some (.int .i64 a0_3) ∧ w'.cell? ⟨gi0, 4, none⟩ = some (.int .i64 a0_4) ∧ w'.cell? ⟨gi0, 5, none⟩ = some (.bool true)) (ds := []) b13A1 zG128 rfl rfl ⟨(zi BK0.out 0).trans rfl, (zi BK0.out 1).trans rfl, (zi BK0.out 2).trans rfl, (zi BK0.out 3).trans rfl, (zi BK0.out 4).trans rfl, (zi BK0.out 5).trans rfl⟩ (fun hHeld => ?_); refine with_tabW spec_l23Search_try.tab1 spec_l23Search_try.bits1 (fun HT_ HW_ => ?_)
  generalize w.drew = w38 at HO0_2 BK0 HK HB hHeld ⊢
  refine zP 0 16 b13A2 HT_ ?_
  refine zP 1 17 b13A3 HT_ ?_
  refine zP 2 18 b13A4 HT_ ?_
  refine zP 4 20 b13A5 HT_ ?_
  refine zP 5 21 b13A9 HT_ ?_
  refine zP 6 22 b13A10 HT_ ?_
  refine zP 8 24 b13A11 HT_ ?_
  refine zQ 3 19 b13A12 HT_ HW_ hHeld ?_
  refine zQ 7 23 b13A13 HT_ HW_ hHeld ?_
  refine join_ (σ := Value × Nat) 2 b13A0 (fun s_ => [(25, .tuple #[.agg #[s_.1, .int .i64 t351, .int .i64 t352], .int .i64 t353]), (4, .pointer (some ⟨s_.2, 0, none⟩)), (15, .tuple #[.agg #[s_.1, .int .i64 t351, .int .i64 t352], .int .i64 t353]), (26, .agg #[s_.1, .int .i64 t351, .int .i64 t352]), (27, .int .i64 t353)]) (fun s_ w' => (w'.cell? ⟨gi0, 0, none⟩ = some (.slice A0_0 l0_0.length c0_0) ∧ w'.cell? ⟨gi0, 1, none⟩ = some (.slice A0_1 l0_1.length c0_1) ∧ w'.cell? ⟨gi0, 2, none⟩ = some (u9000_) ∧ w'.cell? ⟨gi0, 3, none⟩ = some (.int .i64 a0_3) ∧ w'.cell? ⟨gi0, 4, none⟩ = some (.int .i64 a0_4) ∧ w'.cell? ⟨gi0, 5, none⟩ = some (.bool true)) ∧ (Kd.R (Kd.int .i64) 3 w' w0.heap.size (fun k_ => (P0_2_ k_ ∨ w.heap.size ≤ k_) ∧ some k_ ≠ (s_.1 : Value).ownBlock) u9000_ l0_2) ∧ (Kd.R (Kd.int .i64) 3 w' w0.heap.size (fun k_ => (P0_2_ k_ ∨ w.heap.size ≤ k_) ∧ some k_ ≠ (u9000_ : Value).ownBlock) s_.1 t348) ∧ (w'.heap[gi0]? = some (.cells #[.slice A0_0 l0_0.length c0_0, .slice A0_1 l0_1.length c0_1, u9000_, .int .i64 a0_3, .int .i64 a0_4, .bool true] 136 (0, 0))) ∧ (w'.heap[s_.2]? = some (.cells #[.slice none 0 0, .int .i64 0, .int .i64 0] 52 (0, 0))) ∧ (w.heap.size ≤ s_.2) ∧ (w0.heap.size ≤ s_.2) ∧ (gi0 ≠ s_.2) ∧ (s_.2 ≠ gi0) ∧ (Kept w w' (fun k_ => (P0_2_ k_) ∨ k_ = gi0)) ∧ (Below w0.heap.size w0 w')) ?_ ?_
  rotate_left
  ·intro hCont
   refine two_ (i := 9) (j := 13) (Ni := some 25) (Nj := some 4) b13A14 b13A15 rfl rfl rfl rfl (two_of HT_.out zG128) zG129 zG129 (fun K hK => ?_) (fun K hK => ?_)
   ·skip
    refine goes_ Try.func135 zG128 rfl #[.slice A0_0 l0_0.length c0_0, .slice A0_1 l0_1.length c0_1, .slice A1 l1.length c1] (by rfl) rfl rfl zG97 ?_
    with_reducible refine (spec_SourceOf.calls k _ _ l0_0 _ _ l0_1 _ _ l1 t348 t351 t352 t353 _ ?side1 ?side2 ?side3 ?side4 ?side5 ?side6 A4.out).mono ?_
    (case side1 => exact zah HR0_0.out zG93)
    (case side2 => exact HC0_0.out)
    (case side3 => exact zah HR0_1.out zG93)
    (case side4 => exact HC0_1.out)
    (case side5 => exact zah HR1.out zG93)
    (case side6 => exact zH127)
    rintro e w39 ⟨v349, rfl, ho0, hb⟩
    refine ⟨_, rfl, ?_⟩
    obtain ⟨n0_, n1_, n2_, n3_, n4_⟩ := zD5 (zal zG123 (zaj ho0) hb) (zam (zap (zbb (M := fun k_ => (P0_2_ k_ ∨ w.heap.size ≤ k_)) ho0 zG87 (fun k_ h_ => .inr h_)) (zaf zG123)) (zq zG101)) (zp (g := gi0) (o := .cells #[.slice A0_0 l0_0.length c0_0, .slice A0_1 l0_1.length c0_1, u9000_, .int .i64 a0_3, .int .i64 a0_4, .bool true] 136 (0, 0)) zG112 hb) (Kept.below (S := (fun k_ => (P0_2_ k_) ∨ k_ = gi0)) zG93 hb) (zu zG101 hb)
    clear HO0_2 BK0 HK HB
    have HO0_2 := n0_
    have HO350 := n1_
    have BK0 := n2_
    have HK := n3_
    have HB := n4_
    clear n0_ n1_ n2_ n3_ n4_
    (try clear hb)
    (try clear hb2)
    (try clear hk)
    (try clear hi)
    (try clear ho0)
    refine hK.out _ _ ⟨(zi BK0.out 0).trans rfl, (zi BK0.out 1).trans rfl, (zi BK0.out 2).trans rfl, (zi BK0.out 3).trans rfl, (zi BK0.out 4).trans rfl, (zi BK0.out 5).trans rfl⟩ (fun hHeld => ?_)
    clear hK K
    refine norm_ (a' := ?_) ?_ ?_
    rotate_left
    ·show Act.put _ (some 25) _ = _
     simp only [Act.put, List.setIfInBounds_toArray, List.set_cons_zero, List.set_cons_succ, i64_w, i32_w]
     rfl
    refine zP 10 15 b13A16 HT_ ?_
    refine zP 11 26 b13A17 HT_ ?_
    refine zP 12 27 b13A6 HT_ ?_
    refine one_ (i := 13) (N := some 4) b13A0 rfl rfl (one_of HT_.out zG128) zG129 (fun K hK => ?_)
    refine box_step ?hg (N := 4) ?hd (cs := #[.slice none 0 0, .int .i64 0, .int .i64 0]) (t := 52) ?hr ?_; (case hd => rfl); (case hg => rfl); (case hr => exact zH119)
    intro gb354 hg w40 hbox hb
    obtain ⟨n0_, n1_, n2_, n3_, n4_, n5_, n6_, n7_, n8_, n9_⟩ := zD10 (zv zG123 hb) (zv zK244 hb) (zp (g := gi0) (o := .cells #[.slice A0_0 l0_0.length c0_0, .slice A0_1 l0_1.length c0_1, u9000_, .int .i64 a0_3, .int .i64 a0_4, .bool true] 136 (0, 0)) zG112 hb) (Kept.below (S := (fun k_ => (P0_2_ k_) ∨ k_ = gi0)) zG93 hb) (zu zG101 hb) (hbox) ((by rw [hg]; exact zG87 : w.heap.size ≤ gb354)) ((by rw [hg]; exact (zq zG101) : w0.heap.size ≤ gb354)) ((by rw [hg]; exact Nat.ne_of_lt (zz (g := gi0) (o := .cells #[.slice A0_0 l0_0.length c0_0, .slice A0_1 l0_1.length c0_1, u9000_, .int .i64 a0_3, .int .i64 a0_4, .bool true] 136 (0, 0)) zG112) : gi0 ≠ gb354)) ((by rw [hg]; exact Nat.ne_of_gt (zz (g := gi0) (o := .cells #[.slice A0_0 l0_0.length c0_0, .slice A0_1 l0_1.length c0_1, u9000_, .int .i64 a0_3, .int .i64 a0_4, .bool true] 136 (0, 0)) zG112) : gb354 ≠ gi0))
    clear HO0_2 HO350 BK0 HK HB
    have HO0_2 := n0_
    have HO350 := n1_
    have BK0 := n2_
    have HK := n3_
    have HB := n4_
    have BK354 := n5_
    have GW354 := n6_
    have GE354 := n7_
    have NB0_354 := n8_
    have NB354_0 := n9_
    clear n0_ n1_ n2_ n3_ n4_ n5_ n6_ n7_ n8_ n9_
    clear hb hbox hg
    refine hK.out _ _ ⟨(zi BK0.out 0).trans rfl, (zi BK0.out 1).trans rfl, (zi BK0.out 2).trans rfl, (zi BK0.out 3).trans rfl, (zi BK0.out 4).trans rfl, (zi BK0.out 5).trans rfl⟩ (fun hHeld => ?_)
    clear hK K
    refine norm_ (a' := ?_) ?_ ?_
    rotate_left
    ·show Act.put _ (some 4) _ = _
     simp only [Act.put, List.setIfInBounds_toArray, List.set_cons_zero, List.set_cons_succ, i64_w, i32_w]
     rfl
    exact norm_ zG113 (hCont (v349, gb354) _ ⟨hHeld, zG123, zK226, zG112, zG103, GW354.out, GE354.out, NB0_354.out, NB354_0.out, zG90, zG96⟩)
   ·skip
    refine box_step ?hg (N := 4) ?hd (cs := #[.slice none 0 0, .int .i64 0, .int .i64 0]) (t := 52) ?hr ?_; (case hd => rfl); (case hg => rfl); (case hr => exact zH119)
    intro gb354 hg w39 hbox hb
    obtain ⟨n0_, n1_, n2_, n3_, n4_, n5_, n6_, n7_, n8_⟩ := zD9 (zv zG123 hb) (zp (g := gi0) (o := .cells #[.slice A0_0 l0_0.length c0_0, .slice A0_1 l0_1.length c0_1, u9000_, .int .i64 a0_3, .int .i64 a0_4, .bool true] 136 (0, 0)) zG112 hb) (Kept.below (S := (fun k_ => (P0_2_ k_) ∨ k_ = gi0)) zG93 hb) (zu zG101 hb) (hbox) ((by rw [hg]; exact zG87 : w.heap.size ≤ gb354)) ((by rw [hg]; exact (zq zG101) : w0.heap.size ≤ gb354)) ((by rw [hg]; exact Nat.ne_of_lt (zz (g := gi0) (o := .cells #[.slice A0_0 l0_0.length c0_0, .slice A0_1 l0_1.length c0_1, u9000_, .int .i64 a0_3, .int .i64 a0_4, .bool true] 136 (0, 0)) zG112) : gi0 ≠ gb354)) ((by rw [hg]; exact Nat.ne_of_gt (zz (g := gi0) (o := .cells #[.slice A0_0 l0_0.length c0_0, .slice A0_1 l0_1.length c0_1, u9000_, .int .i64 a0_3, .int .i64 a0_4, .bool true] 136 (0, 0)) zG112) : gb354 ≠ gi0))
    clear HO0_2 BK0 HK HB
    have HO0_2 := n0_
    have BK0 := n1_
    have HK := n2_
    have HB := n3_
    have BK354 := n4_
    have GW354 := n5_
    have GE354 := n6_
    have NB0_354 := n7_
    have NB354_0 := n8_
    clear n0_ n1_ n2_ n3_ n4_ n5_ n6_ n7_ n8_
    clear hb hbox hg
    refine hK.out _ _ ⟨(zi BK0.out 0).trans rfl, (zi BK0.out 1).trans rfl, (zi BK0.out 2).trans rfl, (zi BK0.out 3).trans rfl, (zi BK0.out 4).trans rfl, (zi BK0.out 5).trans rfl⟩ (fun hHeld => ?_)
    clear hK K
    refine norm_ (a' := ?_) ?_ ?_
    rotate_left
    ·show Act.put _ (some 4) _ = _
     simp only [Act.put, List.setIfInBounds_toArray, List.set_cons_zero, List.set_cons_succ, i64_w, i32_w]
     rfl
    refine one_ (i := 9) (N := some 25) b13A18 rfl rfl (one_of HT_.out zG128) zG129 (fun K hK => ?_)
    refine goes_ Try.func135 zG128 rfl #[.slice A0_0 l0_0.length c0_0, .slice A0_1 l0_1.length c0_1, .slice A1 l1.length c1] (by rfl) rfl rfl zG97 ?_
    with_reducible refine (spec_SourceOf.calls k _ _ l0_0 _ _ l0_1 _ _ l1 t348 t351 t352 t353 _ ?side1 ?side2 ?side3 ?side4 ?side5 ?side6 A4.out).mono ?_
    (case side1 => exact zah HR0_0.out zG90)
    (case side2 => exact HC0_0.out)
    (case side3 => exact zah HR0_1.out zG90)
    (case side4 => exact HC0_1.out)
    (case side5 => exact zah HR1.out zG90)
    (case side6 => exact zH127)
    rintro e w40 ⟨v349, rfl, ho0, hb⟩
    refine ⟨_, rfl, ?_⟩
    obtain ⟨n0_, n1_, n2_, n3_, n4_, n5_⟩ := zD6 (zal zG123 (zaj ho0) hb) (zam (zap (zbb (M := fun k_ => (P0_2_ k_ ∨ w.heap.size ≤ k_)) ho0 zK188 (fun k_ h_ => .inr h_)) (zaf zG123)) (zq zG96)) (zp (g := gi0) (o := .cells #[.slice A0_0 l0_0.length c0_0, .slice A0_1 l0_1.length c0_1, u9000_, .int .i64 a0_3, .int .i64 a0_4, .bool true] 136 (0, 0)) zG112 hb) (zp (g := gb354) (o := .cells #[.slice none 0 0, .int .i64 0, .int .i64 0] 52 (0, 0)) zG103 hb) (Kept.below (S := (fun k_ => (P0_2_ k_) ∨ k_ = gi0)) zG90 hb) (zu zG96 hb)
    clear HO0_2 BK0 BK354 HK HB
    have HO0_2 := n0_
    have HO350 := n1_
    have BK0 := n2_
    have BK354 := n3_
    have HK := n4_
    have HB := n5_
    clear n0_ n1_ n2_ n3_ n4_ n5_
    (try clear hb)
    (try clear hb2)
    (try clear hk)
    (try clear hi)
    (try clear ho0)
    refine hK.out _ _ ⟨(zi BK0.out 0).trans rfl, (zi BK0.out 1).trans rfl, (zi BK0.out 2).trans rfl, (zi BK0.out 3).trans rfl, (zi BK0.out 4).trans rfl, (zi BK0.out 5).trans rfl⟩ (fun hHeld => ?_)
    clear hK K
    refine norm_ (a' := ?_) ?_ ?_
    rotate_left
    ·show Act.put _ (some 25) _ = _
     simp only [Act.put, List.setIfInBounds_toArray, List.set_cons_zero, List.set_cons_succ, i64_w, i32_w]
     rfl
    refine zP 10 15 b13A19 HT_ ?_
    refine zP 11 26 b13A20 HT_ ?_
    refine zP 12 27 b13A0 HT_ ?_
    exact norm_ zG113 (hCont (v349, gb354) _ ⟨hHeld, zG123, zK226, zG112, zG103, GW354.out, GE354.out, NB0_354.out, NB354_0.out, zG90, zG96⟩)
  rintro ⟨v349, gb354⟩ w41 ⟨hS_, h0_, h1_, h2_, h3_, h4_, h5_, h6_, h7_, h8_, h9_⟩
  have n0_ : Aside0 (Kd.R (Kd.int .i64) 3 w41 w0.heap.size (fun k_ => (P0_2_ k_ ∨ w.heap.size ≤ k_) ∧ some k_ ≠ (v349 : Value).ownBlock) u9000_ l0_2) := ⟨h0_⟩
  have n1_ : Aside0 (Kd.R (Kd.int .i64) 3 w41 w0.heap.size (fun k_ => (P0_2_ k_ ∨ w.heap.size ≤ k_) ∧ some k_ ≠ (u9000_ : Value).ownBlock) v349 t348) := ⟨h1_⟩
  have n2_ : Aside0 (w41.heap[gi0]? = some (.cells #[.slice A0_0 l0_0.length c0_0, .slice A0_1 l0_1.length c0_1, u9000_, .int .i64 a0_3, .int .i64 a0_4, .bool true] 136 (0, 0))) := ⟨h2_⟩
  have n3_ : Aside0 (w41.heap[gb354]? = some (.cells #[.slice none 0 0, .int .i64 0, .int .i64 0] 52 (0, 0))) := ⟨h3_⟩
  have n4_ : Aside0 (w.heap.size ≤ gb354) := ⟨h4_⟩
  have n5_ : Aside0 (w0.heap.size ≤ gb354) := ⟨h5_⟩
  have n6_ : Aside0 (gi0 ≠ gb354) := ⟨h6_⟩
  have n7_ : Aside0 (gb354 ≠ gi0) := ⟨h7_⟩
  have n8_ : Aside0 (Kept w w41 (fun k_ => (P0_2_ k_) ∨ k_ = gi0)) := ⟨h8_⟩
  have n9_ : Aside0 (Below w0.heap.size w0 w41) := ⟨h9_⟩
  clear HO0_2
  clear BK0
  clear HK
  clear HB
  clear h0_ h1_ h2_ h3_ h4_ h5_ h6_ h7_ h8_ h9_
  have HO0_2 := n0_
  have HO350 := n1_
  have BK0 := n2_
  have BK354 := n3_
  have GW354 := n4_
  have GE354 := n5_
  have NB0_354 := n6_
  have NB354_0 := n7_
  have HK := n8_
  have HB := n9_
  clear n0_ n1_ n2_ n3_ n4_ n5_ n6_ n7_ n8_ n9_
  have hHeld : w41.cell? ⟨gi0, 0, none⟩ = some (.slice A0_0 l0_0.length c0_0) ∧ w41.cell? ⟨gi0, 1, none⟩ = some (.slice A0_1 l0_1.length c0_1) ∧ w41.cell? ⟨gi0, 2, none⟩ = some (u9000_) ∧ w41.cell? ⟨gi0, 3, none⟩ = some (.int .i64 a0_3) ∧ w41.cell? ⟨gi0, 4, none⟩ = some (.int .i64 a0_4) ∧ w41.cell? ⟨gi0, 5, none⟩ = some (.bool true) := hS_
  obtain ⟨Ao42, co42, eo42⟩ := zan HO350.out
  (first | subst eo42 | (injection eo42 with f1_ f2_ f3_; have f4_ := f1_.symm; have f5_ := f3_.symm; clear f1_ f2_ f3_; subst f4_; subst f5_))
  refine norm_ (a' := ?_) ?_ ?_
  rotate_left
  ·simp only [putAll, Act.put, List.setIfInBounds_toArray, List.set_cons_zero, List.set_cons_succ]
   rfl
  refine one_ (i := 14) (N := none) b13A7 rfl rfl (one_of HT_.out zG128) zG129 (fun K hK => ?_)
  have hs43 : w41.cell? ⟨gb354, 0, none⟩ = some (.slice none 0 0) := (zi BK354.out 0).trans rfl
  have hfs43 := zm BK354.out 0
  have hns43_0 := NB0_354.out
  have hms43_0 := NB354_0.out
  have hs44 : w41.cell? ⟨gb354, 1, none⟩ = some (.int .i64 0) := (zi BK354.out 1).trans rfl
  have hfs44 := zm BK354.out 1
  have hns44_0 := NB0_354.out
  have hms44_0 := NB354_0.out
  have hs45 : w41.cell? ⟨gb354, 2, none⟩ = some (.int .i64 0) := (zi BK354.out 2).trans rfl
  have hfs45 := zm BK354.out 2
  have hns45_0 := NB0_354.out
  have hms45_0 := NB354_0.out
  refine skip_ (w1 := ?_) (by rfl) rfl ?_ ?_
  rotate_left
  ·go_simp
   rfl
  refine hK.out _ _ ⟨((cell_far (p := ⟨gb354, _, none⟩) NB0_354.out _).trans (((cell_far (p := ⟨gb354, _, none⟩) NB0_354.out _).trans (((cell_far (p := ⟨gb354, _, none⟩) NB0_354.out _).trans (hHeld.1)))))), ((cell_far (p := ⟨gb354, _, none⟩) NB0_354.out _).trans (((cell_far (p := ⟨gb354, _, none⟩) NB0_354.out _).trans (((cell_far (p := ⟨gb354, _, none⟩) NB0_354.out _).trans (hHeld.2.1)))))), ((cell_far (p := ⟨gb354, _, none⟩) NB0_354.out _).trans (((cell_far (p := ⟨gb354, _, none⟩) NB0_354.out _).trans (((cell_far (p := ⟨gb354, _, none⟩) NB0_354.out _).trans (hHeld.2.2.1)))))), ((cell_far (p := ⟨gb354, _, none⟩) NB0_354.out _).trans (((cell_far (p := ⟨gb354, _, none⟩) NB0_354.out _).trans (((cell_far (p := ⟨gb354, _, none⟩) NB0_354.out _).trans (hHeld.2.2.2.1)))))), ((cell_far (p := ⟨gb354, _, none⟩) NB0_354.out _).trans (((cell_far (p := ⟨gb354, _, none⟩) NB0_354.out _).trans (((cell_far (p := ⟨gb354, _, none⟩) NB0_354.out _).trans (hHeld.2.2.2.2.1)))))), ((cell_far (p := ⟨gb354, _, none⟩) NB0_354.out _).trans (((cell_far (p := ⟨gb354, _, none⟩) NB0_354.out _).trans (((cell_far (p := ⟨gb354, _, none⟩) NB0_354.out _).trans (hHeld.2.2.2.2.2))))))⟩ (fun hHeld => ?_)
  clear hK K
  refine zP 15 5 b13A8 HT_ ?_
  refine done_ (done_of HT_.out zG128) ?_
  try go_wp2
  have n0_ : Aside0 (Kd.R (Kd.int .i64) 3 (((w41.setCell ⟨gb354, 0, none⟩ (.slice Ao42 t348.length co42)).setCell ⟨gb354, 1, none⟩ (.int .i64 t351)).setCell ⟨gb354, 2, none⟩ (.int .i64 t352)) w0.heap.size (fun k_ => (P0_2_ k_ ∨ w.heap.size ≤ k_) ∧ some k_ ≠ (.slice Ao42 t348.length co42 : Value).ownBlock) u9000_ l0_2) := ⟨by (with_reducible repeat (first | apply zj | apply zk | apply zl)); exact zs (zo (p := ⟨gb354, 2, none⟩) (zo (p := ⟨gb354, 1, none⟩) (zo (p := ⟨gb354, 0, none⟩) (zt HO0_2.out BK354.out zG129) (fun _ hk => hk.2) (.slice Ao42 t348.length co42)) (fun _ hk => hk.2) (.int .i64 t351)) (fun _ hk => hk.2) (.int .i64 t352)) (fun _ hk => ⟨hk.1.1, hk.1.2⟩)⟩
  have n1_ : Aside0 (Kd.R (Kd.int .i64) 3 (((w41.setCell ⟨gb354, 0, none⟩ (.slice Ao42 t348.length co42)).setCell ⟨gb354, 1, none⟩ (.int .i64 t351)).setCell ⟨gb354, 2, none⟩ (.int .i64 t352)) w0.heap.size (fun k_ => (P0_2_ k_ ∨ w.heap.size ≤ k_) ∧ some k_ ≠ (u9000_ : Value).ownBlock) (.slice Ao42 t348.length co42) t348) := ⟨by (with_reducible repeat (first | apply zj | apply zk | apply zl)); exact zs (zo (p := ⟨gb354, 2, none⟩) (zo (p := ⟨gb354, 1, none⟩) (zo (p := ⟨gb354, 0, none⟩) (zt HO350.out BK354.out zG129) (fun _ hk => hk.2) (.slice Ao42 t348.length co42)) (fun _ hk => hk.2) (.int .i64 t351)) (fun _ hk => hk.2) (.int .i64 t352)) (fun _ hk => ⟨hk.1.1, hk.1.2⟩)⟩
  have n2_ : Aside0 ((((w41.setCell ⟨gb354, 0, none⟩ (.slice Ao42 t348.length co42)).setCell ⟨gb354, 1, none⟩ (.int .i64 t351)).setCell ⟨gb354, 2, none⟩ (.int .i64 t352)).heap[gi0]? = some (.cells #[.slice A0_0 l0_0.length c0_0, .slice A0_1 l0_1.length c0_1, u9000_, .int .i64 a0_3, .int .i64 a0_4, .bool true] 136 (0, 0))) := ⟨zH6⟩
  have n3_ : Aside0 ((((w41.setCell ⟨gb354, 0, none⟩ (.slice Ao42 t348.length co42)).setCell ⟨gb354, 1, none⟩ (.int .i64 t351)).setCell ⟨gb354, 2, none⟩ (.int .i64 t352)).heap[gb354]? = some (.cells #[.slice Ao42 t348.length co42, .int .i64 t351, .int .i64 t352] 52 (0, 0))) := ⟨by (with_reducible repeat (first | refine zc ?_ _ | refine zd ?_ | refine zb ?_ _)); refine zw (cs := #[.slice Ao42 t348.length co42, .int .i64 t351, .int .i64 0]) ?_ 2 _ rfl; (with_reducible repeat (first | refine zc ?_ _ | refine zd ?_ | refine zb ?_ _)); refine zw (cs := #[.slice Ao42 t348.length co42, .int .i64 0, .int .i64 0]) ?_ 1 _ rfl; (with_reducible repeat (first | refine zc ?_ _ | refine zd ?_ | refine zb ?_ _)); refine zw (cs := #[.slice none 0 0, .int .i64 0, .int .i64 0]) ?_ 0 _ rfl; (with_reducible repeat (first | refine zc ?_ _ | refine zd ?_ | refine zb ?_ _)); exact BK354.out⟩
  have n4_ : Aside0 (Kept w (((w41.setCell ⟨gb354, 0, none⟩ (.slice Ao42 t348.length co42)).setCell ⟨gb354, 1, none⟩ (.int .i64 t351)).setCell ⟨gb354, 2, none⟩ (.int .i64 t352)) (fun k_ => (P0_2_ k_) ∨ k_ = gi0)) := ⟨zH33⟩
  have n5_ : Aside0 (Below w0.heap.size w0 (((w41.setCell ⟨gb354, 0, none⟩ (.slice Ao42 t348.length co42)).setCell ⟨gb354, 1, none⟩ (.int .i64 t351)).setCell ⟨gb354, 2, none⟩ (.int .i64 t352))) := ⟨zH59⟩
  (try clear HO0_2)
  (try clear HO350)
  (try clear BK0)
  (try clear BK354)
  (try clear HK)
  (try clear HB)
  generalize (((w41.setCell ⟨gb354, 0, none⟩ (.slice Ao42 t348.length co42)).setCell ⟨gb354, 1, none⟩ (.int .i64 t351)).setCell ⟨gb354, 2, none⟩ (.int .i64 t352)) = w46 at n0_ n1_ n2_ n3_ n4_ n5_ ⊢
  have HO0_2 := n0_
  have HO350 := n1_
  have BK0 := n2_
  have BK354 := n3_
  have HK := n4_
  have HB := n5_
  clear n0_ n1_ n2_ n3_ n4_ n5_
  obtain ⟨n0_, n1_, n2_, n3_, n4_, n5_⟩ := zD6 (zl HO0_2.out) (zl HO350.out) (zd BK0.out) (zd BK354.out) (Kept.drew HK.out) (zg HB.out)
  clear HO0_2 HO350 BK0 BK354 HK HB
  have HO0_2 := n0_
  have HO350 := n1_
  have BK0 := n2_
  have BK354 := n3_
  have HK := n4_
  have HB := n5_
  clear n0_ n1_ n2_ n3_ n4_ n5_
  refine start_ (n := 35) (S := fun w' => w'.cell? ⟨gi0, 0, none⟩ = some (.slice A0_0 l0_0.length c0_0) ∧ w'.cell? ⟨gi0, 1, none⟩ = some (.slice A0_1 l0_1.length c0_1) ∧ w'.cell? ⟨gi0, 2, none⟩ = some (u9000_) ∧ w'.cell? ⟨gi0, 3, none⟩ = some (.int .i64 a0_3) ∧ w'.cell? ⟨gi0, 4, none⟩ = some (.int .i64 a0_4) ∧ w'.cell? ⟨gi0, 5, none⟩ = some (.bool true) ∧ w'.cell? ⟨gb354, 0, none⟩ = some (.slice Ao42 t348.length co42) ∧ w'.cell? ⟨gb354, 1, none⟩ = some (.int .i64 t351) ∧ w'.cell? ⟨gb354, 2, none⟩ = some (.int .i64 t352)) (ds := []) b13A21 zG128 rfl rfl ⟨(zi BK0.out 0).trans rfl, (zi BK0.out 1).trans rfl, (zi BK0.out 2).trans rfl, (zi BK0.out 3).trans rfl, (zi BK0.out 4).trans rfl, (zi BK0.out 5).trans rfl, (zi BK354.out 0).trans rfl, (zi BK354.out 1).trans rfl, (zi BK354.out 2).trans rfl⟩ (fun hHeld => ?_); refine with_tabW spec_l23Search_try.tab2 spec_l23Search_try.bits2 (fun HT_ HW_ => ?_)
  generalize w46.drew = w47 at HO0_2 HO350 BK0 BK354 HK HB hHeld ⊢
  refine zP 0 28 b13A22 HT_ ?_
  refine zP 1 29 b13A23 HT_ ?_
  refine zP 2 30 b13A24 HT_ ?_
  refine zQ 3 31 b13A25 HT_ HW_ hHeld ?_
  refine zP 4 32 b13A26 HT_ ?_
  refine zP 5 33 b13A27 HT_ ?_
  refine zP 6 34 b13A28 HT_ ?_
  refine zP 8 36 b13A45 HT_ ?_
  refine zP 9 37 b13A46 HT_ ?_
  refine zP 10 38 b13A47 HT_ ?_
  refine zP 11 39 b13A48 HT_ ?_
  refine zQ 7 35 b13A29 HT_ HW_ hHeld ?_
  refine zQ 12 40 b13A30 HT_ HW_ hHeld ?_
  refine zP 13 41 b13A31 HT_ ?_
  refine zP 14 42 b13A32 HT_ ?_
  refine zP 15 43 b13A33 HT_ ?_
  refine zP 16 44 b13A34 HT_ ?_
  refine zP 18 46 b13A53 HT_ ?_
  refine zP 19 47 b13A54 HT_ ?_
  refine zP 20 48 b13A55 HT_ ?_
  refine zP 21 49 b13A56 HT_ ?_
  refine zQ 17 45 b13A35 HT_ HW_ hHeld ?_
  refine zQ 22 50 b13A36 HT_ HW_ hHeld ?_
  refine zP 23 51 b13A37 HT_ ?_
  refine zP 24 52 b13A38 HT_ ?_
  refine zP 25 53 b13A39 HT_ ?_
  refine zP 27 55 b13A61 HT_ ?_
  refine zP 28 56 b13A62 HT_ ?_
  refine zP 29 57 b13A63 HT_ ?_
  refine zP 30 58 b13A64 HT_ ?_
  refine zQ 26 54 b13A40 HT_ HW_ hHeld ?_
  refine zQ 31 59 b13A41 HT_ HW_ hHeld ?_
  refine zP 32 60 b13A42 HT_ ?_
  refine zP 33 61 b13A43 HT_ ?_
  refine zP 34 62 b13A44 HT_ ?_
  refine done_ (done_of HT_.out zG128) ?_
  try go_wp2
  first | go_end0 | ((try simp only [Exit.inBlock, Exit.then]); refine bodyPost_ret (results_none rfl _ _ _) rfl ?_)
  exact zH1
 rw [if_pos c22] at H
 have c22b0 := decide_eq_true c22
 clear c22
 simp only [Option.some.injEq, Prod.mk.injEq] at H
 obtain ⟨rfl, rfl, rfl, rfl⟩ := H
 obtain ⟨hcz23_0, hcz23_1, hcz23_2, hcz23_3, hcz23_4, hcz23_5, hfz23_0, hfz23_1, hfz23_2, hfz23_3, hfz23_4, hfz23_5⟩ := zB6 BK0.out
 go_enter Try.func91, Try.ntmps91
 try go_wp2
 obtain ⟨n0_, n1_, n2_, n3_⟩ := zD4 (zl HO0_2.out) (zd BK0.out) (Kept.drew HK.out) (zg HB.out)
 clear HO0_2 BK0 HK HB
 have HO0_2 := n0_
 have BK0 := n1_
 have HK := n2_
 have HB := n3_
 clear n0_ n1_ n2_ n3_
 refine start_ (n := 16) (S := fun w' => w'.cell? ⟨gi0, 0, none⟩ = some (.slice A0_0 l0_0.length c0_0) ∧ w'.cell? ⟨gi0, 1, none⟩ = some (.slice A0_1 l0_1.length c0_1) ∧ w'.cell? ⟨gi0, 2, none⟩ = some (u9000_) ∧ w'.cell? ⟨gi0, 3, none⟩ = some (.int .i64 a0_3) ∧ w'.cell? ⟨gi0, 4, none⟩ = some (.int .i64 a0_4) ∧ w'.cell? ⟨gi0, 5, none⟩ = some (.bool true)) (ds := []) b13A1 zG128 rfl rfl ⟨(zi BK0.out 0).trans rfl, (zi BK0.out 1).trans rfl, (zi BK0.out 2).trans rfl, (zi BK0.out 3).trans rfl, (zi BK0.out 4).trans rfl, (zi BK0.out 5).trans rfl⟩ (fun hHeld => ?_); refine with_tabW spec_l23Search_try.tab1 spec_l23Search_try.bits1 (fun HT_ HW_ => ?_)
 generalize w.drew = w24 at HO0_2 BK0 HK HB hHeld ⊢
 refine zP 0 16 b13A2 HT_ ?_
 refine zP 1 17 b13A3 HT_ ?_
 refine zP 2 18 b13A4 HT_ ?_
 refine zP 4 20 b13A5 HT_ ?_
 refine zP 5 21 b13A9 HT_ ?_
 refine zP 6 22 b13A10 HT_ ?_
 refine zP 8 24 b13A11 HT_ ?_
 refine zQ 3 19 b13A12 HT_ HW_ hHeld ?_
 refine zQ 7 23 b13A13 HT_ HW_ hHeld ?_
 refine join_ (σ := Value × Nat) 2 b13A0 (fun s_ => [(25, .tuple #[.agg #[s_.1, .int .i64 t351, .int .i64 t352], .int .i64 t353]), (4, .pointer (some ⟨s_.2, 0, none⟩)), (15, .tuple #[.agg #[s_.1, .int .i64 t351, .int .i64 t352], .int .i64 t353]), (26, .agg #[s_.1, .int .i64 t351, .int .i64 t352]), (27, .int .i64 t353)]) (fun s_ w' => (w'.cell? ⟨gi0, 0, none⟩ = some (.slice A0_0 l0_0.length c0_0) ∧ w'.cell? ⟨gi0, 1, none⟩ = some (.slice A0_1 l0_1.length c0_1) ∧ w'.cell? ⟨gi0, 2, none⟩ = some (u9000_) ∧ w'.cell? ⟨gi0, 3, none⟩ = some (.int .i64 a0_3) ∧ w'.cell? ⟨gi0, 4, none⟩ = some (.int .i64 a0_4) ∧ w'.cell? ⟨gi0, 5, none⟩ = some (.bool true)) ∧ (Kd.R (Kd.int .i64) 3 w' w0.heap.size (fun k_ => (P0_2_ k_ ∨ w.heap.size ≤ k_) ∧ some k_ ≠ (s_.1 : Value).ownBlock) u9000_ l0_2) ∧ (Kd.R (Kd.int .i64) 3 w' w0.heap.size (fun k_ => (P0_2_ k_ ∨ w.heap.size ≤ k_) ∧ some k_ ≠ (u9000_ : Value).ownBlock) s_.1 t348) ∧ (w'.heap[gi0]? = some (.cells #[.slice A0_0 l0_0.length c0_0, .slice A0_1 l0_1.length c0_1, u9000_, .int .i64 a0_3, .int .i64 a0_4, .bool true] 136 (0, 0))) ∧ (w'.heap[s_.2]? = some (.cells #[.slice none 0 0, .int .i64 0, .int .i64 0] 52 (0, 0))) ∧ (w.heap.size ≤ s_.2) ∧ (w0.heap.size ≤ s_.2) ∧ (gi0 ≠ s_.2) ∧ (s_.2 ≠ gi0) ∧ (Kept w w' (fun k_ => (P0_2_ k_) ∨ k_ = gi0)) ∧ (Below w0.heap.size w0 w')) ?_ ?_
 rotate_left
 ·intro hCont
  refine two_ (i := 9) (j := 13) (Ni := some 25) (Nj := some 4) b13A14 b13A15 rfl rfl rfl rfl (two_of HT_.out zG128) zG129 zG129 (fun K hK => ?_) (fun K hK => ?_)
  ·skip
   refine goes_ Try.func135 zG128 rfl #[.slice A0_0 l0_0.length c0_0, .slice A0_1 l0_1.length c0_1, .slice A1 l1.length c1] (by rfl) rfl rfl zG97 ?_
   with_reducible refine (spec_SourceOf.calls k _ _ l0_0 _ _ l0_1 _ _ l1 t348 t351 t352 t353 _ ?side1 ?side2 ?side3 ?side4 ?side5 ?side6 A4.out).mono ?_
   (case side1 => exact zah HR0_0.out zG93)
   (case side2 => exact HC0_0.out)
   (case side3 => exact zah HR0_1.out zG93)
   (case side4 => exact HC0_1.out)
   (case side5 => exact zah HR1.out zG93)
   (case side6 => exact zH127)
   rintro e w25 ⟨v349, rfl, ho0, hb⟩
   refine ⟨_, rfl, ?_⟩
   obtain ⟨n0_, n1_, n2_, n3_, n4_⟩ := zD5 (zal zG123 (zaj ho0) hb) (zam (zap (zbb (M := fun k_ => (P0_2_ k_ ∨ w.heap.size ≤ k_)) ho0 zG87 (fun k_ h_ => .inr h_)) (zaf zG123)) (zq zG101)) (zp (g := gi0) (o := .cells #[.slice A0_0 l0_0.length c0_0, .slice A0_1 l0_1.length c0_1, u9000_, .int .i64 a0_3, .int .i64 a0_4, .bool true] 136 (0, 0)) zG112 hb) (Kept.below (S := (fun k_ => (P0_2_ k_) ∨ k_ = gi0)) zG93 hb) (zu zG101 hb)
   clear HO0_2 BK0 HK HB
   have HO0_2 := n0_
   have HO350 := n1_
   have BK0 := n2_
   have HK := n3_
   have HB := n4_
   clear n0_ n1_ n2_ n3_ n4_
   (try clear hb)
   (try clear hb2)
   (try clear hk)
   (try clear hi)
   (try clear ho0)
   refine hK.out _ _ ⟨(zi BK0.out 0).trans rfl, (zi BK0.out 1).trans rfl, (zi BK0.out 2).trans rfl, (zi BK0.out 3).trans rfl, (zi BK0.out 4).trans rfl, (zi BK0.out 5).trans rfl⟩ (fun hHeld => ?_)
   clear hK K
   refine norm_ (a' := ?_) ?_ ?_
   rotate_left
   ·show Act.put _ (some 25) _ = _
    simp only [Act.put, List.setIfInBounds_toArray, List.set_cons_zero, List.set_cons_succ, i64_w, i32_w]
    rfl
   refine zP 10 15 b13A16 HT_ ?_
   refine zP 11 26 b13A17 HT_ ?_
   refine zP 12 27 b13A6 HT_ ?_
   refine one_ (i := 13) (N := some 4) b13A0 rfl rfl (one_of HT_.out zG128) zG129 (fun K hK => ?_)
   refine box_step ?hg (N := 4) ?hd (cs := #[.slice none 0 0, .int .i64 0, .int .i64 0]) (t := 52) ?hr ?_; (case hd => rfl); (case hg => rfl); (case hr => exact zH119)
   intro gb354 hg w26 hbox hb
   obtain ⟨n0_, n1_, n2_, n3_, n4_, n5_, n6_, n7_, n8_, n9_⟩ := zD10 (zv zG123 hb) (zv zK244 hb) (zp (g := gi0) (o := .cells #[.slice A0_0 l0_0.length c0_0, .slice A0_1 l0_1.length c0_1, u9000_, .int .i64 a0_3, .int .i64 a0_4, .bool true] 136 (0, 0)) zG112 hb) (Kept.below (S := (fun k_ => (P0_2_ k_) ∨ k_ = gi0)) zG93 hb) (zu zG101 hb) (hbox) ((by rw [hg]; exact zG87 : w.heap.size ≤ gb354)) ((by rw [hg]; exact (zq zG101) : w0.heap.size ≤ gb354)) ((by rw [hg]; exact Nat.ne_of_lt (zz (g := gi0) (o := .cells #[.slice A0_0 l0_0.length c0_0, .slice A0_1 l0_1.length c0_1, u9000_, .int .i64 a0_3, .int .i64 a0_4, .bool true] 136 (0, 0)) zG112) : gi0 ≠ gb354)) ((by rw [hg]; exact Nat.ne_of_gt (zz (g := gi0) (o := .cells #[.slice A0_0 l0_0.length c0_0, .slice A0_1 l0_1.length c0_1, u9000_, .int .i64 a0_3, .int .i64 a0_4, .bool true] 136 (0, 0)) zG112) : gb354 ≠ gi0))
   clear HO0_2 HO350 BK0 HK HB
   have HO0_2 := n0_
   have HO350 := n1_
   have BK0 := n2_
   have HK := n3_
   have HB := n4_
   have BK354 := n5_
   have GW354 := n6_
   have GE354 := n7_
   have NB0_354 := n8_
   have NB354_0 := n9_
   clear n0_ n1_ n2_ n3_ n4_ n5_ n6_ n7_ n8_ n9_
   clear hb hbox hg
   refine hK.out _ _ ⟨(zi BK0.out 0).trans rfl, (zi BK0.out 1).trans rfl, (zi BK0.out 2).trans rfl, (zi BK0.out 3).trans rfl, (zi BK0.out 4).trans rfl, (zi BK0.out 5).trans rfl⟩ (fun hHeld => ?_)
   clear hK K
   refine norm_ (a' := ?_) ?_ ?_
   rotate_left
   ·show Act.put _ (some 4) _ = _
    simp only [Act.put, List.setIfInBounds_toArray, List.set_cons_zero, List.set_cons_succ, i64_w, i32_w]
    rfl
   exact norm_ zG113 (hCont (v349, gb354) _ ⟨hHeld, zG123, zK226, zG112, zG103, GW354.out, GE354.out, NB0_354.out, NB354_0.out, zG90, zG96⟩)
  ·skip
   refine box_step ?hg (N := 4) ?hd (cs := #[.slice none 0 0, .int .i64 0, .int .i64 0]) (t := 52) ?hr ?_; (case hd => rfl); (case hg => rfl); (case hr => exact zH119)
   intro gb354 hg w25 hbox hb
   obtain ⟨n0_, n1_, n2_, n3_, n4_, n5_, n6_, n7_, n8_⟩ := zD9 (zv zG123 hb) (zp (g := gi0) (o := .cells #[.slice A0_0 l0_0.length c0_0, .slice A0_1 l0_1.length c0_1, u9000_, .int .i64 a0_3, .int .i64 a0_4, .bool true] 136 (0, 0)) zG112 hb) (Kept.below (S := (fun k_ => (P0_2_ k_) ∨ k_ = gi0)) zG93 hb) (zu zG101 hb) (hbox) ((by rw [hg]; exact zG87 : w.heap.size ≤ gb354)) ((by rw [hg]; exact (zq zG101) : w0.heap.size ≤ gb354)) ((by rw [hg]; exact Nat.ne_of_lt (zz (g := gi0) (o := .cells #[.slice A0_0 l0_0.length c0_0, .slice A0_1 l0_1.length c0_1, u9000_, .int .i64 a0_3, .int .i64 a0_4, .bool true] 136 (0, 0)) zG112) : gi0 ≠ gb354)) ((by rw [hg]; exact Nat.ne_of_gt (zz (g := gi0) (o := .cells #[.slice A0_0 l0_0.length c0_0, .slice A0_1 l0_1.length c0_1, u9000_, .int .i64 a0_3, .int .i64 a0_4, .bool true] 136 (0, 0)) zG112) : gb354 ≠ gi0))
   clear HO0_2 BK0 HK HB
   have HO0_2 := n0_
   have BK0 := n1_
   have HK := n2_
   have HB := n3_
   have BK354 := n4_
   have GW354 := n5_
   have GE354 := n6_
   have NB0_354 := n7_
   have NB354_0 := n8_
   clear n0_ n1_ n2_ n3_ n4_ n5_ n6_ n7_ n8_
   clear hb hbox hg
   refine hK.out _ _ ⟨(zi BK0.out 0).trans rfl, (zi BK0.out 1).trans rfl, (zi BK0.out 2).trans rfl, (zi BK0.out 3).trans rfl, (zi BK0.out 4).trans rfl, (zi BK0.out 5).trans rfl⟩ (fun hHeld => ?_)
   clear hK K
   refine norm_ (a' := ?_) ?_ ?_
   rotate_left
   ·show Act.put _ (some 4) _ = _
    simp only [Act.put, List.setIfInBounds_toArray, List.set_cons_zero, List.set_cons_succ, i64_w, i32_w]
    rfl
   refine one_ (i := 9) (N := some 25) b13A18 rfl rfl (one_of HT_.out zG128) zG129 (fun K hK => ?_)
   refine goes_ Try.func135 zG128 rfl #[.slice A0_0 l0_0.length c0_0, .slice A0_1 l0_1.length c0_1, .slice A1 l1.length c1] (by rfl) rfl rfl zG97 ?_
   with_reducible refine (spec_SourceOf.calls k _ _ l0_0 _ _ l0_1 _ _ l1 t348 t351 t352 t353 _ ?side1 ?side2 ?side3 ?side4 ?side5 ?side6 A4.out).mono ?_
   (case side1 => exact zah HR0_0.out zG90)
   (case side2 => exact HC0_0.out)
   (case side3 => exact zah HR0_1.out zG90)
   (case side4 => exact HC0_1.out)
   (case side5 => exact zah HR1.out zG90)
   (case side6 => exact zH127)
   rintro e w26 ⟨v349, rfl, ho0, hb⟩
   refine ⟨_, rfl, ?_⟩
   obtain ⟨n0_, n1_, n2_, n3_, n4_, n5_⟩ := zD6 (zal zG123 (zaj ho0) hb) (zam (zap (zbb (M := fun k_ => (P0_2_ k_ ∨ w.heap.size ≤ k_)) ho0 zK188 (fun k_ h_ => .inr h_)) (zaf zG123)) (zq zG96)) (zp (g := gi0) (o := .cells #[.slice A0_0 l0_0.length c0_0, .slice A0_1 l0_1.length c0_1, u9000_, .int .i64 a0_3, .int .i64 a0_4, .bool true] 136 (0, 0)) zG112 hb) (zp (g := gb354) (o := .cells #[.slice none 0 0, .int .i64 0, .int .i64 0] 52 (0, 0)) zG103 hb) (Kept.below (S := (fun k_ => (P0_2_ k_) ∨ k_ = gi0)) zG90 hb) (zu zG96 hb)
   clear HO0_2 BK0 BK354 HK HB
   have HO0_2 := n0_
   have HO350 := n1_
   have BK0 := n2_
   have BK354 := n3_
   have HK := n4_
   have HB := n5_
   clear n0_ n1_ n2_ n3_ n4_ n5_
   (try clear hb)
   (try clear hb2)
   (try clear hk)
   (try clear hi)
   (try clear ho0)
   refine hK.out _ _ ⟨(zi BK0.out 0).trans rfl, (zi BK0.out 1).trans rfl, (zi BK0.out 2).trans rfl, (zi BK0.out 3).trans rfl, (zi BK0.out 4).trans rfl, (zi BK0.out 5).trans rfl⟩ (fun hHeld => ?_)
   clear hK K
   refine norm_ (a' := ?_) ?_ ?_
   rotate_left
   ·show Act.put _ (some 25) _ = _
    simp only [Act.put, List.setIfInBounds_toArray, List.set_cons_zero, List.set_cons_succ, i64_w, i32_w]
    rfl
   refine zP 10 15 b13A19 HT_ ?_
   refine zP 11 26 b13A20 HT_ ?_
   refine zP 12 27 b13A0 HT_ ?_
   exact norm_ zG113 (hCont (v349, gb354) _ ⟨hHeld, zG123, zK226, zG112, zG103, GW354.out, GE354.out, NB0_354.out, NB354_0.out, zG90, zG96⟩)
 rintro ⟨v349, gb354⟩ w27 ⟨hS_, h0_, h1_, h2_, h3_, h4_, h5_, h6_, h7_, h8_, h9_⟩
 have n0_ : Aside0 (Kd.R (Kd.int .i64) 3 w27 w0.heap.size (fun k_ => (P0_2_ k_ ∨ w.heap.size ≤ k_) ∧ some k_ ≠ (v349 : Value).ownBlock) u9000_ l0_2) := ⟨h0_⟩
 have n1_ : Aside0 (Kd.R (Kd.int .i64) 3 w27 w0.heap.size (fun k_ => (P0_2_ k_ ∨ w.heap.size ≤ k_) ∧ some k_ ≠ (u9000_ : Value).ownBlock) v349 t348) := ⟨h1_⟩
 have n2_ : Aside0 (w27.heap[gi0]? = some (.cells #[.slice A0_0 l0_0.length c0_0, .slice A0_1 l0_1.length c0_1, u9000_, .int .i64 a0_3, .int .i64 a0_4, .bool true] 136 (0, 0))) := ⟨h2_⟩
 have n3_ : Aside0 (w27.heap[gb354]? = some (.cells #[.slice none 0 0, .int .i64 0, .int .i64 0] 52 (0, 0))) := ⟨h3_⟩
 have n4_ : Aside0 (w.heap.size ≤ gb354) := ⟨h4_⟩
 have n5_ : Aside0 (w0.heap.size ≤ gb354) := ⟨h5_⟩
 have n6_ : Aside0 (gi0 ≠ gb354) := ⟨h6_⟩
 have n7_ : Aside0 (gb354 ≠ gi0) := ⟨h7_⟩
 have n8_ : Aside0 (Kept w w27 (fun k_ => (P0_2_ k_) ∨ k_ = gi0)) := ⟨h8_⟩
 have n9_ : Aside0 (Below w0.heap.size w0 w27) := ⟨h9_⟩
 clear HO0_2
 clear BK0
 clear HK
 clear HB
 clear h0_ h1_ h2_ h3_ h4_ h5_ h6_ h7_ h8_ h9_
 have HO0_2 := n0_
 have HO350 := n1_
 have BK0 := n2_
 have BK354 := n3_
 have GW354 := n4_
 have GE354 := n5_
 have NB0_354 := n6_
 have NB354_0 := n7_
 have HK := n8_
 have HB := n9_
 clear n0_ n1_ n2_ n3_ n4_ n5_ n6_ n7_ n8_ n9_
 have hHeld : w27.cell? ⟨gi0, 0, none⟩ = some (.slice A0_0 l0_0.length c0_0) ∧ w27.cell? ⟨gi0, 1, none⟩ = some (.slice A0_1 l0_1.length c0_1) ∧ w27.cell? ⟨gi0, 2, none⟩ = some (u9000_) ∧ w27.cell? ⟨gi0, 3, none⟩ = some (.int .i64 a0_3) ∧ w27.cell? ⟨gi0, 4, none⟩ = some (.int .i64 a0_4) ∧ w27.cell? ⟨gi0, 5, none⟩ = some (.bool true) := hS_
 obtain ⟨Ao28, co28, eo28⟩ := zan HO350.out
 (first | subst eo28 | (injection eo28 with f1_ f2_ f3_; have f4_ := f1_.symm; have f5_ := f3_.symm; clear f1_ f2_ f3_; subst f4_; subst f5_))
 refine norm_ (a' := ?_) ?_ ?_
 rotate_left
 ·simp only [putAll, Act.put, List.setIfInBounds_toArray, List.set_cons_zero, List.set_cons_succ]
  rfl
 refine one_ (i := 14) (N := none) b13A7 rfl rfl (one_of HT_.out zG128) zG129 (fun K hK => ?_)
 have hs29 : w27.cell? ⟨gb354, 0, none⟩ = some (.slice none 0 0) := (zi BK354.out 0).trans rfl
 have hfs29 := zm BK354.out 0
 have hns29_0 := NB0_354.out
 have hms29_0 := NB354_0.out
 have hs30 : w27.cell? ⟨gb354, 1, none⟩ = some (.int .i64 0) := (zi BK354.out 1).trans rfl
 have hfs30 := zm BK354.out 1
 have hns30_0 := NB0_354.out
 have hms30_0 := NB354_0.out
 have hs31 : w27.cell? ⟨gb354, 2, none⟩ = some (.int .i64 0) := (zi BK354.out 2).trans rfl
 have hfs31 := zm BK354.out 2
 have hns31_0 := NB0_354.out
 have hms31_0 := NB354_0.out
 refine skip_ (w1 := ?_) (by rfl) rfl ?_ ?_
 rotate_left
 ·go_simp
  rfl
 refine hK.out _ _ ⟨((cell_far (p := ⟨gb354, _, none⟩) NB0_354.out _).trans (((cell_far (p := ⟨gb354, _, none⟩) NB0_354.out _).trans (((cell_far (p := ⟨gb354, _, none⟩) NB0_354.out _).trans (hHeld.1)))))), ((cell_far (p := ⟨gb354, _, none⟩) NB0_354.out _).trans (((cell_far (p := ⟨gb354, _, none⟩) NB0_354.out _).trans (((cell_far (p := ⟨gb354, _, none⟩) NB0_354.out _).trans (hHeld.2.1)))))), ((cell_far (p := ⟨gb354, _, none⟩) NB0_354.out _).trans (((cell_far (p := ⟨gb354, _, none⟩) NB0_354.out _).trans (((cell_far (p := ⟨gb354, _, none⟩) NB0_354.out _).trans (hHeld.2.2.1)))))), ((cell_far (p := ⟨gb354, _, none⟩) NB0_354.out _).trans (((cell_far (p := ⟨gb354, _, none⟩) NB0_354.out _).trans (((cell_far (p := ⟨gb354, _, none⟩) NB0_354.out _).trans (hHeld.2.2.2.1)))))), ((cell_far (p := ⟨gb354, _, none⟩) NB0_354.out _).trans (((cell_far (p := ⟨gb354, _, none⟩) NB0_354.out _).trans (((cell_far (p := ⟨gb354, _, none⟩) NB0_354.out _).trans (hHeld.2.2.2.2.1)))))), ((cell_far (p := ⟨gb354, _, none⟩) NB0_354.out _).trans (((cell_far (p := ⟨gb354, _, none⟩) NB0_354.out _).trans (((cell_far (p := ⟨gb354, _, none⟩) NB0_354.out _).trans (hHeld.2.2.2.2.2))))))⟩ (fun hHeld => ?_)
 clear hK K
 refine zP 15 5 b13A8 HT_ ?_
 refine done_ (done_of HT_.out zG128) ?_
 try go_wp2
 have n0_ : Aside0 (Kd.R (Kd.int .i64) 3 (((w27.setCell ⟨gb354, 0, none⟩ (.slice Ao28 t348.length co28)).setCell ⟨gb354, 1, none⟩ (.int .i64 t351)).setCell ⟨gb354, 2, none⟩ (.int .i64 t352)) w0.heap.size (fun k_ => (P0_2_ k_ ∨ w.heap.size ≤ k_) ∧ some k_ ≠ (.slice Ao28 t348.length co28 : Value).ownBlock) u9000_ l0_2) := ⟨by (with_reducible repeat (first | apply zj | apply zk | apply zl)); exact zs (zo (p := ⟨gb354, 2, none⟩) (zo (p := ⟨gb354, 1, none⟩) (zo (p := ⟨gb354, 0, none⟩) (zt HO0_2.out BK354.out zG129) (fun _ hk => hk.2) (.slice Ao28 t348.length co28)) (fun _ hk => hk.2) (.int .i64 t351)) (fun _ hk => hk.2) (.int .i64 t352)) (fun _ hk => ⟨hk.1.1, hk.1.2⟩)⟩
 have n1_ : Aside0 (Kd.R (Kd.int .i64) 3 (((w27.setCell ⟨gb354, 0, none⟩ (.slice Ao28 t348.length co28)).setCell ⟨gb354, 1, none⟩ (.int .i64 t351)).setCell ⟨gb354, 2, none⟩ (.int .i64 t352)) w0.heap.size (fun k_ => (P0_2_ k_ ∨ w.heap.size ≤ k_) ∧ some k_ ≠ (u9000_ : Value).ownBlock) (.slice Ao28 t348.length co28) t348) := ⟨by (with_reducible repeat (first | apply zj | apply zk | apply zl)); exact zs (zo (p := ⟨gb354, 2, none⟩) (zo (p := ⟨gb354, 1, none⟩) (zo (p := ⟨gb354, 0, none⟩) (zt HO350.out BK354.out zG129) (fun _ hk => hk.2) (.slice Ao28 t348.length co28)) (fun _ hk => hk.2) (.int .i64 t351)) (fun _ hk => hk.2) (.int .i64 t352)) (fun _ hk => ⟨hk.1.1, hk.1.2⟩)⟩
 have n2_ : Aside0 ((((w27.setCell ⟨gb354, 0, none⟩ (.slice Ao28 t348.length co28)).setCell ⟨gb354, 1, none⟩ (.int .i64 t351)).setCell ⟨gb354, 2, none⟩ (.int .i64 t352)).heap[gi0]? = some (.cells #[.slice A0_0 l0_0.length c0_0, .slice A0_1 l0_1.length c0_1, u9000_, .int .i64 a0_3, .int .i64 a0_4, .bool true] 136 (0, 0))) := ⟨zH6⟩
 have n3_ : Aside0 ((((w27.setCell ⟨gb354, 0, none⟩ (.slice Ao28 t348.length co28)).setCell ⟨gb354, 1, none⟩ (.int .i64 t351)).setCell ⟨gb354, 2, none⟩ (.int .i64 t352)).heap[gb354]? = some (.cells #[.slice Ao28 t348.length co28, .int .i64 t351, .int .i64 t352] 52 (0, 0))) := ⟨by (with_reducible repeat (first | refine zc ?_ _ | refine zd ?_ | refine zb ?_ _)); refine zw (cs := #[.slice Ao28 t348.length co28, .int .i64 t351, .int .i64 0]) ?_ 2 _ rfl; (with_reducible repeat (first | refine zc ?_ _ | refine zd ?_ | refine zb ?_ _)); refine zw (cs := #[.slice Ao28 t348.length co28, .int .i64 0, .int .i64 0]) ?_ 1 _ rfl; (with_reducible repeat (first | refine zc ?_ _ | refine zd ?_ | refine zb ?_ _)); refine zw (cs := #[.slice none 0 0, .int .i64 0, .int .i64 0]) ?_ 0 _ rfl; (with_reducible repeat (first | refine zc ?_ _ | refine zd ?_ | refine zb ?_ _)); exact BK354.out⟩
 have n4_ : Aside0 (Kept w (((w27.setCell ⟨gb354, 0, none⟩ (.slice Ao28 t348.length co28)).setCell ⟨gb354, 1, none⟩ (.int .i64 t351)).setCell ⟨gb354, 2, none⟩ (.int .i64 t352)) (fun k_ => (P0_2_ k_) ∨ k_ = gi0)) := ⟨zH33⟩
 have n5_ : Aside0 (Below w0.heap.size w0 (((w27.setCell ⟨gb354, 0, none⟩ (.slice Ao28 t348.length co28)).setCell ⟨gb354, 1, none⟩ (.int .i64 t351)).setCell ⟨gb354, 2, none⟩ (.int .i64 t352))) := ⟨zH59⟩
 (try clear HO0_2)
 (try clear HO350)
 (try clear BK0)
 (try clear BK354)
 (try clear HK)
 (try clear HB)
 generalize (((w27.setCell ⟨gb354, 0, none⟩ (.slice Ao28 t348.length co28)).setCell ⟨gb354, 1, none⟩ (.int .i64 t351)).setCell ⟨gb354, 2, none⟩ (.int .i64 t352)) = w32 at n0_ n1_ n2_ n3_ n4_ n5_ ⊢
 have HO0_2 := n0_
 have HO350 := n1_
 have BK0 := n2_
 have BK354 := n3_
 have HK := n4_
 have HB := n5_
 clear n0_ n1_ n2_ n3_ n4_ n5_
 obtain ⟨n0_, n1_, n2_, n3_, n4_, n5_⟩ := zD6 (zl HO0_2.out) (zl HO350.out) (zd BK0.out) (zd BK354.out) (Kept.drew HK.out) (zg HB.out)
 clear HO0_2 HO350 BK0 BK354 HK HB
 have HO0_2 := n0_
 have HO350 := n1_
 have BK0 := n2_
 have BK354 := n3_
 have HK := n4_
 have HB := n5_
 clear n0_ n1_ n2_ n3_ n4_ n5_
 refine start_ (n := 35) (S := fun w' => w'.cell? ⟨gi0, 0, none⟩ = some (.slice A0_0 l0_0.length c0_0) ∧ w'.cell? ⟨gi0, 1, none⟩ = some (.slice A0_1 l0_1.length c0_1) ∧ w'.cell? ⟨gi0, 2, none⟩ = some (u9000_) ∧ w'.cell? ⟨gi0, 3, none⟩ = some (.int .i64 a0_3) ∧ w'.cell? ⟨gi0, 4, none⟩ = some (.int .i64 a0_4) ∧ w'.cell? ⟨gi0, 5, none⟩ = some (.bool true) ∧ w'.cell? ⟨gb354, 0, none⟩ = some (.slice Ao28 t348.length co28) ∧ w'.cell? ⟨gb354, 1, none⟩ = some (.int .i64 t351) ∧ w'.cell? ⟨gb354, 2, none⟩ = some (.int .i64 t352)) (ds := []) b13A21 zG128 rfl rfl ⟨(zi BK0.out 0).trans rfl, (zi BK0.out 1).trans rfl, (zi BK0.out 2).trans rfl, (zi BK0.out 3).trans rfl, (zi BK0.out 4).trans rfl, (zi BK0.out 5).trans rfl, (zi BK354.out 0).trans rfl, (zi BK354.out 1).trans rfl, (zi BK354.out 2).trans rfl⟩ (fun hHeld => ?_); refine with_tabW spec_l23Search_try.tab2 spec_l23Search_try.bits2 (fun HT_ HW_ => ?_)
 generalize w32.drew = w33 at HO0_2 HO350 BK0 BK354 HK HB hHeld ⊢
 refine zP 0 28 b13A22 HT_ ?_
 refine zP 1 29 b13A23 HT_ ?_
 refine zP 2 30 b13A24 HT_ ?_
 refine zQ 3 31 b13A25 HT_ HW_ hHeld ?_
 refine zP 4 32 b13A26 HT_ ?_
 refine zP 5 33 b13A27 HT_ ?_
 refine zP 6 34 b13A28 HT_ ?_
 refine zP 8 36 b13A45 HT_ ?_
 refine zP 9 37 b13A46 HT_ ?_
 refine zP 10 38 b13A47 HT_ ?_
 refine zP 11 39 b13A48 HT_ ?_
 refine zQ 7 35 b13A29 HT_ HW_ hHeld ?_
 refine zQ 12 40 b13A30 HT_ HW_ hHeld ?_
 refine zP 13 41 b13A31 HT_ ?_
 refine zP 14 42 b13A32 HT_ ?_
 refine zP 15 43 b13A33 HT_ ?_
 refine zP 16 44 b13A34 HT_ ?_
 refine zP 18 46 b13A53 HT_ ?_
 refine zP 19 47 b13A54 HT_ ?_
 refine zP 20 48 b13A55 HT_ ?_
 refine zP 21 49 b13A56 HT_ ?_
 refine zQ 17 45 b13A35 HT_ HW_ hHeld ?_
 refine zQ 22 50 b13A36 HT_ HW_ hHeld ?_
 refine zP 23 51 b13A37 HT_ ?_
 refine zP 24 52 b13A38 HT_ ?_
 refine zP 25 53 b13A39 HT_ ?_
 refine zP 27 55 b13A61 HT_ ?_
 refine zP 28 56 b13A62 HT_ ?_
 refine zP 29 57 b13A63 HT_ ?_
 refine zP 30 58 b13A64 HT_ ?_
 refine zQ 26 54 b13A40 HT_ HW_ hHeld ?_
 refine zQ 31 59 b13A41 HT_ HW_ hHeld ?_
 refine zP 32 60 b13A42 HT_ ?_
 refine zP 33 61 b13A43 HT_ ?_
 refine zP 34 62 b13A44 HT_ ?_
 refine done_ (done_of HT_.out zG128) ?_
 have hnb34 := NB354_0.out
 have hnc34 := NB0_354.out
 obtain ⟨hcz35_0, hcz35_1, hcz35_2, hfz35_0, hfz35_1, hfz35_2⟩ := zB3 BK354.out
 obtain ⟨hcz36_0, hcz36_1, hcz36_2, hcz36_3, hcz36_4, hcz36_5, hfz36_0, hfz36_1, hfz36_2, hfz36_3, hfz36_4, hfz36_5⟩ := zB6 BK0.out
 try go_wp2
 first | go_end0 | ((try simp only [Exit.inBlock, Exit.then]); refine bodyPost_ret (results_none rfl _ _ _) rfl ?_)
 exact ⟨_, zH111, by (with_reducible repeat (first | apply zj | apply zk | apply zl)); exact zs (zo (p := ⟨gi0, 5, none⟩) (zo (p := ⟨gi0, 4, none⟩) (zo (p := ⟨gi0, 3, none⟩) (zo (p := ⟨gi0, 2, none⟩) (zt HO350.out BK0.out zG129) (fun _ hk => hk.2) (.slice Ao28 t348.length co28)) (fun _ hk => hk.2) (.int .i64 t351)) (fun _ hk => hk.2) (.int .i64 t352)) (fun _ hk => hk.2) (.bool true)) (fun _ hk => hk.1.1), (by (with_reducible repeat (first | refine zc ?_ _ | refine zd ?_ | refine zb ?_ _)); refine zw (cs := #[.slice A0_0 l0_0.length c0_0, .slice A0_1 l0_1.length c0_1, .slice Ao28 t348.length co28, .int .i64 t351, .int .i64 t352, .bool true]) ?_ 5 _ rfl; (with_reducible repeat (first | refine zc ?_ _ | refine zd ?_ | refine zb ?_ _)); refine zw (cs := #[.slice A0_0 l0_0.length c0_0, .slice A0_1 l0_1.length c0_1, .slice Ao28 t348.length co28, .int .i64 t351, .int .i64 a0_4, .bool true]) ?_ 4 _ rfl; (with_reducible repeat (first | refine zc ?_ _ | refine zd ?_ | refine zb ?_ _)); refine zw (cs := #[.slice A0_0 l0_0.length c0_0, .slice A0_1 l0_1.length c0_1, .slice Ao28 t348.length co28, .int .i64 a0_3, .int .i64 a0_4, .bool true]) ?_ 3 _ rfl; (with_reducible repeat (first | refine zc ?_ _ | refine zd ?_ | refine zb ?_ _)); refine zw (cs := #[.slice A0_0 l0_0.length c0_0, .slice A0_1 l0_1.length c0_1, u9000_, .int .i64 a0_3, .int .i64 a0_4, .bool true]) ?_ 2 _ rfl; (with_reducible repeat (first | refine zc ?_ _ | refine zd ?_ | refine zb ?_ _)); exact BK0.out), zH59, zH33⟩
end Go.Proofs.Ytojncbpeeboooaa.X
