-- squeezed
-- made by pp.py (wip/tools) out of the translation; Lean checks it
import Derived.Test.YtnkceaibkfbeaaaE0
import Derived.Test.YtnkceaibkfbeaaaE1
import Derived.Test.YtnkceaibkfbeaaaE2
namespace Go.Proofs.Ytnkceaibkfbeaaa.E
open Go.RowKit Go.Proofs.YtnkceaibkfbeaaaW.PrintWords Go.Proofs.YtnkceaibkfbeaaaW.PrintLast Go.Proofs.YtnkceaibkfbeaaaW.PrintMore
attribute [local go_sem] max2_int min2_int max_two min_two max_three min_three max_four min_four   -- for this text's walks alone
set_option linter.unusedVariables false
set_option linter.unusedSimpArgs false

abbrev b3A0 := zM 21 0
abbrev b3A1 := zM 21 1
abbrev b3A2 := zM 21 3
abbrev b3A3 := zM 21 7
abbrev b3A4 := zM 21 15
abbrev b3A5 := zM 21 31
abbrev b3A6 := zM 21 63
abbrev b3A7 := zM 21 127
abbrev b3A8 := zM 21 255
abbrev b3A9 := zM 21 511
abbrev b3A10 := zM 21 1023
abbrev b3A11 := zM 21 2047
abbrev b3A12 := zM 21 4095
abbrev b3A13 := zM 21 65535
abbrev b3A14 := zM 21 131071
abbrev b3A15 := zM 21 262143
abbrev b3A16 := zM 21 524287
abbrev b3A17 := zM 21 1048575
abbrev b3A18 := zM 21 2097151
abbrev b3A19 := zM 21 8191
abbrev b3A20 := zM 21 16383
abbrev b3A21 := zM 21 32767
/-! ### impl_Stock_receive: function 37 -/
def impl_Stock_receive.j0 : Nat → Bool → Int → Int → Int → Int → Int → List (S38) → Int → ByteArray → Int → Int → Int → Option (Int × Int × Int × Int × Int × Int × Int × (List (S38)))
 | 0, _, _, _, _, _, _, _, _, _, _, _, _ => none
 | k + 1, x11, x1000, x1001, x1002, x1003, x1004, x1005, x119000, x119001, x119002, x119003, x119004 => if x11 = true then (some (5, 0, x1000, x1001, x1002, x1003, x1004, x1005)) else ((impl_Stock_lotAt.f k x1000 x1001 x1002 x1003 x1004 x1005 x119001 x119002).bind fun bt124 => (if bt124.1 ≥ 0 then (some (7, 0, bt124.2.1, bt124.2.2.1, bt124.2.2.2.1, bt124.2.2.2.2.1, bt124.2.2.2.2.2.1, bt124.2.2.2.2.2.2)) else (if (bt124.2.2.2.2.2.2.length : Int) = 60 then (some (14, 0, bt124.2.1, bt124.2.2.1, bt124.2.2.2.1, bt124.2.2.2.2.1, bt124.2.2.2.2.2.1, bt124.2.2.2.2.2.2)) else (if bt124.2.2.2.2.2.2.length < 2932031007402 then (some (0, x119003, bt124.2.1, wrap64 (bt124.2.2.1 + x119003), bt124.2.2.2.1, bt124.2.2.2.2.1, bt124.2.2.2.2.2.1, (bt124.2.2.2.2.2.2 ++ [(⟨x119001, x119002, x119003, x119004, false⟩ : S38)]))) else (none)))))
def impl_Stock_receive.f (k : Nat) (a0_0 : Int) (a0_1 : Int) (a0_2 : Int) (a0_3 : Int) (a0_4 : Int) (l0_5 : List (S38)) (a1_0 : Int) (a1_1 : ByteArray) (a1_2 : Int) (a1_3 : Int) (a1_4 : Int) : Option (Int × Int × Int × Int × Int × Int × Int × (List (S38))) := (impl_NameOK.f k a1_1).bind fun t120 => (if t120 = true then ((impl_within.f a1_2 1 1000000).bind fun t121 => (if t121 = true then ((impl_within.f a1_3 1 100000).bind fun t122 => (if t122 = true then ((impl_within.f a1_4 a0_0 100000).bind fun t123 => (impl_Stock_receive.j0 k (!t123) a0_0 a0_1 a0_2 a0_3 a0_4 l0_5 a1_0 a1_1 a1_2 a1_3 a1_4)) else (impl_Stock_receive.j0 k true a0_0 a0_1 a0_2 a0_3 a0_4 l0_5 a1_0 a1_1 a1_2 a1_3 a1_4))) else (impl_Stock_receive.j0 k true a0_0 a0_1 a0_2 a0_3 a0_4 l0_5 a1_0 a1_1 a1_2 a1_3 a1_4))) else (some (6, 0, a0_0, a0_1, a0_2, a0_3, a0_4, l0_5)))
theorem impl_Stock_receive.mono_l : ∀ k, (∀ y0 y1 y2 y3 y4 y5 y6 y7 y8 y9 y10 y11, LeO (impl_Stock_receive.j0 k y0 y1 y2 y3 y4 y5 y6 y7 y8 y9 y10 y11) (impl_Stock_receive.j0 (k + 1) y0 y1 y2 y3 y4 y5 y6 y7 y8 y9 y10 y11))
 | 0 => fun _ _ _ _ _ _ _ _ _ _ _ _ r h => by simp [impl_Stock_receive.j0] at h
 | k + 1 => by
  have ih0 := impl_Stock_receive.mono_l k
  ·intro y0 y1 y2 y3 y4 y5 y6 y7 y8 y9 y10 y11
   unfold impl_Stock_receive.j0
   repeat' first
   | (with_reducible exact ih0 _ _ _ _ _ _ _ _ _ _ _ _)
   | (with_reducible exact impl_NameOK.mono _ _)
   | (with_reducible exact impl_Stock_lotAt.mono _ _ _ _ _ _ _ _ _)
   | (with_reducible exact LeO.refl _)
   | (with_reducible exact LeO.none _)
   | (with_reducible refine LeO.ite ?_ ?_)
   | (with_reducible refine LeO.bind ?_ (fun _ => ?_))
   | exact ih0 _ _ _ _ _ _ _ _ _ _ _ _
   | exact impl_NameOK.mono _ _
   | exact impl_Stock_lotAt.mono _ _ _ _ _ _ _ _ _
   | exact LeO.none _
   | refine LeO.ite ?_ ?_
   | refine LeO.bind ?_ (fun _ => ?_)
theorem impl_Stock_receive.mono : ∀ a0 a1 a2 a3 a4 a5 a6 a7 a8 a9 a10 k, LeO (impl_Stock_receive.f k a0 a1 a2 a3 a4 a5 a6 a7 a8 a9 a10) (impl_Stock_receive.f (k + 1) a0 a1 a2 a3 a4 a5 a6 a7 a8 a9 a10) := by
 intro a0 a1 a2 a3 a4 a5 a6 a7 a8 a9 a10 k
 have ih0 := impl_Stock_receive.mono_l k
 unfold impl_Stock_receive.f
 repeat' first
   | (with_reducible exact ih0 _ _ _ _ _ _ _ _ _ _ _ _)
   | (with_reducible exact impl_NameOK.mono _ _)
   | (with_reducible exact impl_Stock_lotAt.mono _ _ _ _ _ _ _ _ _)
   | (with_reducible exact LeO.refl _)
   | (with_reducible exact LeO.none _)
   | (with_reducible refine LeO.ite ?_ ?_)
   | (with_reducible refine LeO.bind ?_ (fun _ => ?_))
   | exact ih0 _ _ _ _ _ _ _ _ _ _ _ _
   | exact impl_NameOK.mono _ _
   | exact impl_Stock_lotAt.mono _ _ _ _ _ _ _ _ _
   | exact LeO.none _
   | refine LeO.ite ?_ ?_
   | refine LeO.bind ?_ (fun _ => ?_)
def impl_Stock_receive.T3 : Bool × List (List Nat × List Nat) := (true, [([], []), ([0], [0]), ([1], [1]), ([2], [2]), ([3, 2], [3]), ([4], [4]), ([5, 4], [4, 5]), ([6, 4, 4], [4, 6]), ([7, 4], [4, 7]), ([4, 8], [4, 8]), ([9, 7], [9]), ([10], [10]), ([11, 10], [10, 11]), ([10], [10]), ([13, 10], [10, 13]), ([14, 10], [10, 14]), ([15, 10], [10, 15]), ([12, 16, 10, 10], [10, 12, 16]), ([17, 10], [10, 17]), ([10, 18], [10, 18]), ([19, 17], [19])])
def impl_Stock_receive.B3 : List Nat := [0, 1, 3, 7, 15, 31, 63, 127, 255, 511, 1023, 2047, 4095, 2047, 10239, 26623, 59391, 131071, 262143, 524287, 1048575]
theorem impl_Stock_receive.tab3 : rtab .any (opsOf Try.f37 3) = impl_Stock_receive.T3 := by kernel_rfl
theorem impl_Stock_receive.bits3 : waitsOk impl_Stock_receive.T3.2 impl_Stock_receive.B3 = true := by kernel_rfl
def impl_Stock_receive.T9 : Bool × List (List Nat × List Nat) := (true, [([], []), ([], []), ([1], [1]), ([2], [2]), ([3], [3]), ([], []), ([5], [5]), ([], []), ([7], [7]), ([], []), ([9], [9]), ([], []), ([11], [11]), ([6, 8, 10, 12], [6, 8, 10, 12]), ([13], [13]), ([4, 14], [4, 14]), ([0, 0, 1, 2, 3, 4, 5, 6, 7, 8, 9, 10, 11, 12, 13, 14, 15], [0]), ([16, 0, 1, 2, 3, 4, 5, 6, 7, 8, 9, 10, 11, 12, 13, 14, 15], [16]), ([17, 15, 15, 0, 1, 2, 3, 4, 5, 6, 7, 8, 9, 10, 11, 12, 13, 14, 15], [15, 17])])
def impl_Stock_receive.B9 : List Nat := [0, 0, 2, 6, 14, 0, 32, 0, 128, 0, 512, 0, 2048, 8160, 16352, 32766, 65535, 131071, 262143]
theorem impl_Stock_receive.tab9 : rtab .any (opsOf Try.f37 9) = impl_Stock_receive.T9 := by kernel_rfl
theorem impl_Stock_receive.bits9 : waitsOk impl_Stock_receive.T9.2 impl_Stock_receive.B9 = true := by kernel_rfl
def impl_Stock_receive.T10 : Bool × List (List Nat × List Nat) := (true, [([], []), ([0], [0]), ([1], [1]), ([2], [2]), ([], []), ([4], [4]), ([3, 5], [3, 5]), ([0, 0, 1, 2, 3, 4, 5, 6], [0]), ([7, 0, 1, 2, 3, 4, 5, 6], [7]), ([8, 6, 0, 1, 2, 3, 4, 5, 6], [6, 8])])
def impl_Stock_receive.B10 : List Nat := [0, 1, 3, 7, 0, 16, 63, 127, 255, 511]
theorem impl_Stock_receive.tab10 : rtab .any (opsOf Try.f37 10) = impl_Stock_receive.T10 := by kernel_rfl
theorem impl_Stock_receive.bits10 : waitsOk impl_Stock_receive.T10.2 impl_Stock_receive.B10 = true := by kernel_rfl
set_option maxHeartbeats 64000000 in
set_option maxRecDepth 100000 in
theorem impl_Stock_receive.calls (k : Nat) (gi0 : Nat) (a0_0 : Int) (a0_1 : Int) (a0_2 : Int) (a0_3 : Int) (a0_4 : Int) (P0_5_ : Nat → Prop) (u9000_ : Value) (l0_5 : List (S38)) (a1_0 : Int) (a1_1 : ByteArray) (a1_2 : Int) (a1_3 : Int) (a1_4 : Int) (r1 : Int) (r2 : Int) (r3 : Int) (r4 : Int) (r5 : Int) (r6 : Int) (r7 : Int) (r8 : List (S38)) (w0 w : World) (hB : Below w0.heap.size w0 w) (hbk0 : w.heap[gi0]? = some (.cells (zs6 a0_0 a0_1 a0_2 a0_3 a0_4 u9000_) 29 (0, 0))) (hge0 : w0.heap.size ≤ gi0) (ho0_5 : Kd.R k38 38 w w0.heap.size P0_5_ u9000_ l0_5) (h : impl_Stock_receive.f k a0_0 a0_1 a0_2 a0_3 a0_4 l0_5 a1_0 a1_1 a1_2 a1_3 a1_4 = some (r1, r2, r3, r4, r5, r6, r7, r8)) :
  Calls Try.prog 37 #[.pointer (some ⟨gi0, 0, none⟩), .agg (za5 a1_0 a1_1 a1_2 a1_3 a1_4)] w fun e w' => ∃ v7_ : Value, e = .returned (.agg (zo2 r1 r2)) ∧ Kd.R k38 38 w' w0.heap.size (fun k_ => (P0_5_ k_ ∨ w.heap.size ≤ k_)) v7_ r8 ∧ w'.heap[gi0]? = some (.cells (zs6 r3 r4 r5 r6 r7 v7_) 29 (0, 0)) ∧ Below w0.heap.size w0 w' ∧ Kept w w' (fun k_ => (P0_5_ k_) ∨ k_ = gi0) := by
 have hu34 := Try.underlying34
 have hu36 := Try.underlying36
 have hu38 := Try.underlying38
 obtain ⟨HO0_5, BK0, GE0, HK, HW0, HB⟩ := zD6 (show Kd.R k38 38 w w0.heap.size (fun k_ => (P0_5_ k_ ∨ w.heap.size ≤ k_)) u9000_ l0_5 from zs ho0_5 (fun k_ hk => (.inl hk))) hbk0 hge0 (Kept.refl w (fun k_ => (P0_5_ k_) ∨ k_ = gi0)) hB.size hB
 clear hbk0 hge0 hB
 have H : ((impl_NameOK.f k a1_1).bind fun t120 => (if t120 = true then ((impl_within.f a1_2 1 1000000).bind fun t121 => (if t121 = true then ((impl_within.f a1_3 1 100000).bind fun t122 => (if t122 = true then ((impl_within.f a1_4 a0_0 100000).bind fun t123 => (impl_Stock_receive.j0 k (!t123) a0_0 a0_1 a0_2 a0_3 a0_4 l0_5 a1_0 a1_1 a1_2 a1_3 a1_4)) else (impl_Stock_receive.j0 k true a0_0 a0_1 a0_2 a0_3 a0_4 l0_5 a1_0 a1_1 a1_2 a1_3 a1_4))) else (impl_Stock_receive.j0 k true a0_0 a0_1 a0_2 a0_3 a0_4 l0_5 a1_0 a1_1 a1_2 a1_3 a1_4))) else (some (6, 0, a0_0, a0_1, a0_2, a0_3, a0_4, l0_5)))) = some (r1, r2, r3, r4, r5, r6, r7, r8) := h
 clear h
 replace H := Option.bind_eq_some_iff.mp H
 obtain ⟨t120, A30, H⟩ := H
 replace H : (if t120 = true then ((impl_within.f a1_2 1 1000000).bind fun t121 => (if t121 = true then ((impl_within.f a1_3 1 100000).bind fun t122 => (if t122 = true then ((impl_within.f a1_4 a0_0 100000).bind fun t123 => (impl_Stock_receive.j0 k (!t123) a0_0 a0_1 a0_2 a0_3 a0_4 l0_5 a1_0 a1_1 a1_2 a1_3 a1_4)) else (impl_Stock_receive.j0 k true a0_0 a0_1 a0_2 a0_3 a0_4 l0_5 a1_0 a1_1 a1_2 a1_3 a1_4))) else (impl_Stock_receive.j0 k true a0_0 a0_1 a0_2 a0_3 a0_4 l0_5 a1_0 a1_1 a1_2 a1_3 a1_4))) else (some (6, 0, a0_0, a0_1, a0_2, a0_3, a0_4, l0_5))) = some (r1, r2, r3, r4, r5, r6, r7, r8) := H
 have A3 := za A30
 clear A30
 by_cases c4 : t120 = true
 rotate_left
 ·replace c4 := Bool.eq_false_iff.mpr c4
  subst c4
  have H1 : (some (6, 0, a0_0, a0_1, a0_2, a0_3, a0_4, l0_5)) = some (r1, r2, r3, r4, r5, r6, r7, r8) := by rw [if_neg (show ¬ (false = true) by decide)] at H; exact H
  clear H
  have H := H1
  clear H1
  simp only [Option.some.injEq, Prod.mk.injEq] at H
  obtain ⟨rfl, rfl, rfl, rfl, rfl, rfl, rfl, rfl⟩ := H
  go_enter Try.func37, Try.ntmps37
  go_wp2_with (first | ((with_reducible refine gate_dst (N := 3) rfl ?_); refine box_event ?hg (N := 3) ?hd (cs := (za5 a1_0 a1_1 a1_2 a1_3 a1_4)) (t := 34) ?hr ?_; (case hd => rfl); (case hg => rfl); (case hr => exact zH83); intro gb118 hg w60 hbox hb; have n_ := zA_ (za (zo zK167 hb)) (zA_ (za (zq (g := gi0) (o := .cells (zs6 a0_0 a0_1 a0_2 a0_3 a0_4 u9000_) 29 (0, 0)) zG71 hb)) (zA_ (za (Kept.below (S := (fun k_ => (P0_5_ k_) ∨ k_ = gi0)) zK138 hb)) (zA_ (za (zr zK152 hb)) (zA_ (za (hbox)) (zA_ (zN1 w.heap.size hg zK126) (zA_ (zN1 w0.heap.size hg (zp zK152)) (zN2 hg (zv (g := gi0) (o := .cells (zs6 a0_0 a0_1 a0_2 a0_3 a0_4 u9000_) 29 (0, 0)) zG71)))))))); clear HO0_5 BK0 HK HB; obtain ⟨HO0_5, BK0, HK, HB, BK118, GW118, GE118, NB0_118, NB118_0⟩ := n_; clear hb hbox hg) | ((with_reducible refine gate_dst (N := 4) rfl ?_); refine box_event ?hg (N := 4) ?hd (cs := (zo2 0 0)) (t := 36) ?hr ?_; (case hd => rfl); (case hg => rfl); (case hr => exact zH83); intro gb119 hg w61 hbox hb; have n_ := zA_ (za (zo zK167 hb)) (zA_ (za (zq (g := gi0) (o := .cells (zs6 a0_0 a0_1 a0_2 a0_3 a0_4 u9000_) 29 (0, 0)) zG71 hb)) (zA_ (za (zq (g := gb118) (o := .cells (za5 a1_0 a1_1 a1_2 a1_3 a1_4) 34 (0, 0)) zK153 hb)) (zA_ (za (Kept.below (S := (fun k_ => (P0_5_ k_) ∨ k_ = gi0)) zK130 hb)) (zA_ (za (zr zK142 hb)) (zA_ (za (hbox)) (zA_ (zN1 w.heap.size hg zK125) (zA_ (zN1 w0.heap.size hg (zp zK142)) (zN3 hg (zv (g := gi0) (o := .cells (zs6 a0_0 a0_1 a0_2 a0_3 a0_4 u9000_) 29 (0, 0)) zG71) (zN2 hg (zv (g := gb118) (o := .cells (za5 a1_0 a1_1 a1_2 a1_3 a1_4) 34 (0, 0)) zK153)))))))))); clear HO0_5 BK0 BK118 HK HB; obtain ⟨HO0_5, BK0, BK118, HK, HB, BK119, GW119, GE119, NB0_119, NB119_0, NB118_119, NB119_118⟩ := n_; clear hb hbox hg; have hnb62 := NB118_0.out; have hnc62 := NB0_118.out; have hnb63 := NB118_119.out; have hnc63 := NB119_118.out; obtain ⟨hcz64_0, hcz64_1, hcz64_2, hcz64_3, hcz64_4, hfz64_0, hfz64_1, hfz64_2, hfz64_3, hfz64_4⟩ := zB5 BK118.out) | ((with_reducible refine gate_callee (f := 49) rfl ?_); refine goesL_ (some 8) rfl rfl Try.func49 zG83 rfl #[.string a1_1] rfl zG54 ?_; (with_reducible refine (impl_NameOK.calls k a1_1 false _ A3.out).mono ?_); rintro e w' ⟨rfl, ⟨nd, rfl⟩⟩; refine ⟨_, rfl, ?_⟩; (try (rw [drewN_self w61]; generalize hq_ : World.drewN w61 _ = w61; have n0_ : Aside0 (Kd.R k38 38 w61 w0.heap.size (fun k_ => (P0_5_ k_ ∨ w.heap.size ≤ k_)) u9000_ l0_5) := ⟨by rw [← hq_]; exact zK167⟩; have n1_ : Aside0 (w61.heap[gi0]? = some (.cells (zs6 a0_0 a0_1 a0_2 a0_3 a0_4 u9000_) 29 (0, 0))) := ⟨by rw [← hq_]; exact zG71⟩; have n2_ : Aside0 (w61.heap[gb118]? = some (.cells (za5 a1_0 a1_1 a1_2 a1_3 a1_4) 34 (0, 0))) := ⟨by rw [← hq_]; exact zK153⟩; have n3_ : Aside0 (w61.heap[gb119]? = some (.cells (zo2 0 0) 36 (0, 0))) := ⟨by rw [← hq_]; exact zK154⟩; have n4_ : Aside0 (Kept w w61 (fun k_ => (P0_5_ k_) ∨ k_ = gi0)) := ⟨by rw [← hq_]; exact zK127⟩; have n5_ : Aside0 (Below w0.heap.size w0 w61) := ⟨by rw [← hq_]; exact zK137⟩; clear HO0_5 BK0 BK118 BK119 HK HB hq_; have HO0_5 := n0_; have BK0 := n1_; have BK118 := n2_; have BK119 := n3_; have HK := n4_; have HB := n5_; clear n0_ n1_ n2_ n3_ n4_ n5_)); (try have hcu65_0 : w61.cell? ⟨gi0, 0, none⟩ = some (.int .i64 a0_0) := (blk_cell BK0.out 0).trans rfl); (try have hcu65_1 : w61.cell? ⟨gi0, 1, none⟩ = some (.int .i64 a0_1) := (blk_cell BK0.out 1).trans rfl); (try have hcu65_2 : w61.cell? ⟨gi0, 2, none⟩ = some (.int .i64 a0_2) := (blk_cell BK0.out 2).trans rfl); (try have hcu65_3 : w61.cell? ⟨gi0, 3, none⟩ = some (.int .i64 a0_3) := (blk_cell BK0.out 3).trans rfl); (try have hcu65_4 : w61.cell? ⟨gi0, 4, none⟩ = some (.int .i64 a0_4) := (blk_cell BK0.out 4).trans rfl); (try have hcu65_5 : w61.cell? ⟨gi0, 5, none⟩ = some (u9000_) := (blk_cell BK0.out 5).trans rfl); (try have hfcu65_0 := zc BK0.out 0); (try have hfcu65_1 := zc BK0.out 1); (try have hfcu65_2 := zc BK0.out 2); (try have hfcu65_3 := zc BK0.out 3); (try have hfcu65_4 := zc BK0.out 4); (try have hfcu65_5 := zc BK0.out 5); (try have hcu66_0 : w61.cell? ⟨gb118, 0, none⟩ = some (.int .i64 a1_0) := (blk_cell BK118.out 0).trans rfl); (try have hcu66_1 : w61.cell? ⟨gb118, 1, none⟩ = some (.string a1_1) := (blk_cell BK118.out 1).trans rfl); (try have hcu66_2 : w61.cell? ⟨gb118, 2, none⟩ = some (.int .i64 a1_2) := (blk_cell BK118.out 2).trans rfl); (try have hcu66_3 : w61.cell? ⟨gb118, 3, none⟩ = some (.int .i64 a1_3) := (blk_cell BK118.out 3).trans rfl); (try have hcu66_4 : w61.cell? ⟨gb118, 4, none⟩ = some (.int .i64 a1_4) := (blk_cell BK118.out 4).trans rfl); (try have hfcu66_0 := zc BK118.out 0); (try have hfcu66_1 := zc BK118.out 1); (try have hfcu66_2 := zc BK118.out 2); (try have hfcu66_3 := zc BK118.out 3); (try have hfcu66_4 := zc BK118.out 4); (try have hcu67_0 : w61.cell? ⟨gb119, 0, none⟩ = some (.int .i64 0) := (blk_cell BK119.out 0).trans rfl); (try have hcu67_1 : w61.cell? ⟨gb119, 1, none⟩ = some (.int .i64 0) := (blk_cell BK119.out 1).trans rfl); (try have hfcu67_0 := zc BK119.out 0); (try have hfcu67_1 := zc BK119.out 1); have hnb68 := NB119_0.out; have hnc68 := NB0_119.out; obtain ⟨hcz69_0, hcz69_1, hfz69_0, hfz69_1⟩ := zB2 BK119.out))
  refine bodyPost_ret (results_cell_row rfl _ _ gb119 36 (zo2 6 0) (0, 0) _ rfl (by (with_reducible repeat (first | refine zf ?_ _ | refine zg ?_ | refine ze ?_ _)); refine zu (cs := (zo2 6 0)) ?_ 1 _ rfl; (with_reducible repeat (first | refine zf ?_ _ | refine zg ?_ | refine ze ?_ _)); refine zu (cs := (zo2 0 0)) ?_ 0 _ rfl; (with_reducible repeat (first | refine zf ?_ _ | refine zg ?_ | refine ze ?_ _)); exact BK119.out) Try.underlying36 rfl zG83) rfl ?_
  exact ⟨_, zH68, by (with_reducible repeat (first | apply zk | apply zl | apply zn)); exact zs (zm (p := ⟨gb119, 1, none⟩) (zm (p := ⟨gb119, 0, none⟩) (zw HO0_5.out BK119.out zG84) (fun _ hk => hk.2) (.int .i64 6)) (fun _ hk => hk.2) (.int .i64 0)) (fun _ hk => hk.1), zK114, zH16, zH5⟩

 subst c4
 have H1 : ((impl_within.f a1_2 1 1000000).bind fun t121 => (if t121 = true then ((impl_within.f a1_3 1 100000).bind fun t122 => (if t122 = true then ((impl_within.f a1_4 a0_0 100000).bind fun t123 => (impl_Stock_receive.j0 k (!t123) a0_0 a0_1 a0_2 a0_3 a0_4 l0_5 a1_0 a1_1 a1_2 a1_3 a1_4)) else (impl_Stock_receive.j0 k true a0_0 a0_1 a0_2 a0_3 a0_4 l0_5 a1_0 a1_1 a1_2 a1_3 a1_4))) else (impl_Stock_receive.j0 k true a0_0 a0_1 a0_2 a0_3 a0_4 l0_5 a1_0 a1_1 a1_2 a1_3 a1_4))) = some (r1, r2, r3, r4, r5, r6, r7, r8) := by rw [if_pos rfl] at H; exact H
 clear H
 have H := H1
 clear H1
 have HC5 := za H
 clear H
 go_enter Try.func37, Try.ntmps37
 go_upto_region 3 with (first | ((with_reducible refine gate_dst (N := 3) rfl ?_); refine box_event ?hg (N := 3) ?hd (cs := (za5 a1_0 a1_1 a1_2 a1_3 a1_4)) (t := 34) ?hr ?_; (case hd => rfl); (case hg => rfl); (case hr => exact zH83); intro gb118 hg w6 hbox hb; have n_ := zA_ (za (zo zK167 hb)) (zA_ (za (zq (g := gi0) (o := .cells (zs6 a0_0 a0_1 a0_2 a0_3 a0_4 u9000_) 29 (0, 0)) zG71 hb)) (zA_ (za (Kept.below (S := (fun k_ => (P0_5_ k_) ∨ k_ = gi0)) zK138 hb)) (zA_ (za (zr zK152 hb)) (zA_ (za (hbox)) (zA_ (zN1 w.heap.size hg zK126) (zA_ (zN1 w0.heap.size hg (zp zK152)) (zN2 hg (zv (g := gi0) (o := .cells (zs6 a0_0 a0_1 a0_2 a0_3 a0_4 u9000_) 29 (0, 0)) zG71)))))))); clear HO0_5 BK0 HK HB; obtain ⟨HO0_5, BK0, HK, HB, BK118, GW118, GE118, NB0_118, NB118_0⟩ := n_; clear hb hbox hg) | ((with_reducible refine gate_dst (N := 4) rfl ?_); refine box_event ?hg (N := 4) ?hd (cs := (zo2 0 0)) (t := 36) ?hr ?_; (case hd => rfl); (case hg => rfl); (case hr => exact zH83); intro gb119 hg w7 hbox hb; have n_ := zA_ (za (zo zK167 hb)) (zA_ (za (zq (g := gi0) (o := .cells (zs6 a0_0 a0_1 a0_2 a0_3 a0_4 u9000_) 29 (0, 0)) zG71 hb)) (zA_ (za (zq (g := gb118) (o := .cells (za5 a1_0 a1_1 a1_2 a1_3 a1_4) 34 (0, 0)) zK153 hb)) (zA_ (za (Kept.below (S := (fun k_ => (P0_5_ k_) ∨ k_ = gi0)) zK130 hb)) (zA_ (za (zr zK142 hb)) (zA_ (za (hbox)) (zA_ (zN1 w.heap.size hg zK125) (zA_ (zN1 w0.heap.size hg (zp zK142)) (zN3 hg (zv (g := gi0) (o := .cells (zs6 a0_0 a0_1 a0_2 a0_3 a0_4 u9000_) 29 (0, 0)) zG71) (zN2 hg (zv (g := gb118) (o := .cells (za5 a1_0 a1_1 a1_2 a1_3 a1_4) 34 (0, 0)) zK153)))))))))); clear HO0_5 BK0 BK118 HK HB; obtain ⟨HO0_5, BK0, BK118, HK, HB, BK119, GW119, GE119, NB0_119, NB119_0, NB118_119, NB119_118⟩ := n_; clear hb hbox hg; have hnb8 := NB118_0.out; have hnc8 := NB0_118.out; have hnb9 := NB118_119.out; have hnc9 := NB119_118.out; obtain ⟨hcz10_0, hcz10_1, hcz10_2, hcz10_3, hcz10_4, hfz10_0, hfz10_1, hfz10_2, hfz10_3, hfz10_4⟩ := zB5 BK118.out) | ((with_reducible refine gate_callee (f := 49) rfl ?_); refine goesL_ (some 8) rfl rfl Try.func49 zG83 rfl #[.string a1_1] rfl zG54 ?_; (with_reducible refine (impl_NameOK.calls k a1_1 true _ A3.out).mono ?_); rintro e w' ⟨rfl, ⟨nd, rfl⟩⟩; refine ⟨_, rfl, ?_⟩))
 (try simp only [Act.put, List.setIfInBounds_toArray, List.set_cons_zero, List.set_cons_succ])
 generalize hq_ : w7.drewN nd = w7
 replace HO0_5 := Aside0.mk (Kd.R_at hq_ HO0_5.out)
 replace BK0 := Aside0.mk (blk_at hq_ BK0.out)
 replace BK118 := Aside0.mk (blk_at hq_ BK118.out)
 replace BK119 := Aside0.mk (blk_at hq_ BK119.out)
 replace HK := Aside0.mk (kept_at hq_ HK.out)
 replace HB := Aside0.mk (below_at hq_ HB.out)
 clear hq_
 go_cut [11] (fun v11 wc => ∃ (kq : Nat) (x11_4 : Bool), v11 = .bool x11_4 ∧ Aside0 (impl_Stock_receive.j0 kq x11_4 a0_0 a0_1 a0_2 a0_3 a0_4 l0_5 a1_0 a1_1 a1_2 a1_3 a1_4 = some (r1, r2, r3, r4, r5, r6, r7, r8)) ∧ Aside0 (kq ≤ k) ∧ Aside0 (Kd.R k38 38 wc w0.heap.size (fun k_ => (P0_5_ k_ ∨ w.heap.size ≤ k_)) u9000_ l0_5) ∧ Aside0 (wc.heap[gi0]? = some (.cells (zs6 a0_0 a0_1 a0_2 a0_3 a0_4 u9000_) 29 (0, 0))) ∧ Aside0 (wc.heap[gb118]? = some (.cells (za5 a1_0 a1_1 a1_2 a1_3 a1_4) 34 (0, 0))) ∧ Aside0 (wc.heap[gb119]? = some (.cells (zo2 0 0) 36 (0, 0))) ∧ Aside0 (Kept w wc (fun k_ => (P0_5_ k_) ∨ k_ = gi0)) ∧ Aside0 (Below w0.heap.size w0 wc))
 case first =>
  have H := HC5.out
  clear HC5
  replace H := Option.bind_eq_some_iff.mp H
  obtain ⟨t121, A110, H⟩ := H
  replace H : (if t121 = true then ((impl_within.f a1_3 1 100000).bind fun t122 => (if t122 = true then ((impl_within.f a1_4 a0_0 100000).bind fun t123 => (impl_Stock_receive.j0 k (!t123) a0_0 a0_1 a0_2 a0_3 a0_4 l0_5 a1_0 a1_1 a1_2 a1_3 a1_4)) else (impl_Stock_receive.j0 k true a0_0 a0_1 a0_2 a0_3 a0_4 l0_5 a1_0 a1_1 a1_2 a1_3 a1_4))) else (impl_Stock_receive.j0 k true a0_0 a0_1 a0_2 a0_3 a0_4 l0_5 a1_0 a1_1 a1_2 a1_3 a1_4)) = some (r1, r2, r3, r4, r5, r6, r7, r8) := H
  have A11 := za A110
  clear A110
  by_cases c12 : t121 = true
  rotate_left
  ·replace c12 := Bool.eq_false_iff.mpr c12
   subst c12
   have H1 : (impl_Stock_receive.j0 k true a0_0 a0_1 a0_2 a0_3 a0_4 l0_5 a1_0 a1_1 a1_2 a1_3 a1_4) = some (r1, r2, r3, r4, r5, r6, r7, r8) := by rw [if_neg (show ¬ (false = true) by decide)] at H; exact H
   clear H
   have H := H1
   clear H1
   have H' := za H
   clear H
   try go_wp2
   obtain ⟨n0_, n1_, n2_, n3_, n4_, n5_⟩ := zD6 (zn HO0_5.out) (zg BK0.out) (zg BK118.out) (zg BK119.out) (Kept.drew HK.out) (zh HB.out)
   clear HO0_5 BK0 BK118 BK119 HK HB
   have HO0_5 := n0_
   have BK0 := n1_
   have BK118 := n2_
   have BK119 := n3_
   have HK := n4_
   have HB := n5_
   clear n0_ n1_ n2_ n3_ n4_ n5_
   refine start_ (n := 21) (S := fun w' => w'.cell? ⟨gb118, 0, none⟩ = some (.int .i64 a1_0) ∧ w'.cell? ⟨gb118, 1, none⟩ = some (.string a1_1) ∧ w'.cell? ⟨gb118, 2, none⟩ = some (.int .i64 a1_2) ∧ w'.cell? ⟨gb118, 3, none⟩ = some (.int .i64 a1_3) ∧ w'.cell? ⟨gb118, 4, none⟩ = some (.int .i64 a1_4)) (ds := []) b3A0 zG83 rfl rfl ⟨(blk_cell BK118.out 0).trans rfl, (blk_cell BK118.out 1).trans rfl, (blk_cell BK118.out 2).trans rfl, (blk_cell BK118.out 3).trans rfl, (blk_cell BK118.out 4).trans rfl⟩ (fun hHeld => ?_); refine with_tabW impl_Stock_receive.tab3 impl_Stock_receive.bits3 (fun HT_ HW_ => ?_)
   generalize w7.drew = w18 at HO0_5 BK0 BK118 BK119 HK HB hHeld ⊢
   refine zP 0 12 b3A1 HT_ ?_
   refine zQ 1 13 b3A2 HT_ HW_ hHeld ?_
   refine one_ (i := 2) (N := some 14) b3A3 rfl rfl (one_of HT_.out zG83) zG84 (fun K hK => ?_)
   refine goes_ Try.func39 zG83 rfl #[.int .i64 a1_2, .int .i64 1, .int .i64 1000000] (by rfl) rfl rfl zG54 ?_
   with_reducible refine (impl_within.calls a1_2 1 1000000 false _ A11.out).mono ?_
   rintro e w' ⟨rfl, ⟨nd, rfl⟩⟩
   refine ⟨_, rfl, ?_⟩
   refine hK.out _ _ ⟨(blk_cell BK118.out 0).trans rfl, (blk_cell BK118.out 1).trans rfl, (blk_cell BK118.out 2).trans rfl, (blk_cell BK118.out 3).trans rfl, (blk_cell BK118.out 4).trans rfl⟩ (fun hHeld => ?_)
   clear hK K
   refine norm_ (a' := ?_) ?_ ?_
   rotate_left
   ·show Act.put _ (some 14) _ = _
    simp only [Act.put, List.setIfInBounds_toArray, List.set_cons_zero, List.set_cons_succ, i64_w, i32_w]
    rfl
   refine zP 3 15 b3A4 HT_ ?_
   refine zP 4 16 b3A5 HT_ ?_
   refine zU 5 17 b3A6 HT_ ?_
   refine zU 6 18 b3A7 HT_ ?_
   refine zU 7 19 b3A8 HT_ ?_
   refine zU 8 20 b3A9 HT_ ?_
   refine zP 9 21 b3A10 HT_ ?_
   refine zP 10 22 b3A11 HT_ ?_
   refine zU 11 23 b3A12 HT_ ?_
   refine zU 12 24 b3A19 HT_ ?_
   refine zU 13 25 b3A20 HT_ ?_
   refine zU 14 26 b3A21 HT_ ?_
   refine zU 15 27 b3A13 HT_ ?_
   refine zU 16 28 b3A14 HT_ ?_
   refine zU 17 29 b3A15 HT_ ?_
   refine zU 18 30 b3A16 HT_ ?_
   refine zP 19 31 b3A17 HT_ ?_
   refine zP 20 11 b3A18 HT_ ?_
   refine done_ (done_of HT_.out zG83) ?_
   try go_wp2
   go_meet
   case rel => exact ⟨_, (true), zG82, H', ⟨zH84⟩, ⟨zH71⟩, ⟨zH67⟩, ⟨zH62⟩, ⟨zH63⟩, ⟨zH5⟩, ⟨zH16⟩⟩
  subst c12
  have H1 : ((impl_within.f a1_3 1 100000).bind fun t122 => (if t122 = true then ((impl_within.f a1_4 a0_0 100000).bind fun t123 => (impl_Stock_receive.j0 k (!t123) a0_0 a0_1 a0_2 a0_3 a0_4 l0_5 a1_0 a1_1 a1_2 a1_3 a1_4)) else (impl_Stock_receive.j0 k true a0_0 a0_1 a0_2 a0_3 a0_4 l0_5 a1_0 a1_1 a1_2 a1_3 a1_4))) = some (r1, r2, r3, r4, r5, r6, r7, r8) := by rw [if_pos rfl] at H; exact H
  clear H
  have H := H1
  clear H1
  replace H := Option.bind_eq_some_iff.mp H
  obtain ⟨t122, A130, H⟩ := H
  replace H : (if t122 = true then ((impl_within.f a1_4 a0_0 100000).bind fun t123 => (impl_Stock_receive.j0 k (!t123) a0_0 a0_1 a0_2 a0_3 a0_4 l0_5 a1_0 a1_1 a1_2 a1_3 a1_4)) else (impl_Stock_receive.j0 k true a0_0 a0_1 a0_2 a0_3 a0_4 l0_5 a1_0 a1_1 a1_2 a1_3 a1_4)) = some (r1, r2, r3, r4, r5, r6, r7, r8) := H
  have A13 := za A130
  clear A130
  by_cases c14 : t122 = true
  rotate_left
  ·replace c14 := Bool.eq_false_iff.mpr c14
   subst c14
   have H1 : (impl_Stock_receive.j0 k true a0_0 a0_1 a0_2 a0_3 a0_4 l0_5 a1_0 a1_1 a1_2 a1_3 a1_4) = some (r1, r2, r3, r4, r5, r6, r7, r8) := by rw [if_neg (show ¬ (false = true) by decide)] at H; exact H
   clear H
   have H := H1
   clear H1
   have H' := za H
   clear H
   try go_wp2
   obtain ⟨n0_, n1_, n2_, n3_, n4_, n5_⟩ := zD6 (zn HO0_5.out) (zg BK0.out) (zg BK118.out) (zg BK119.out) (Kept.drew HK.out) (zh HB.out)
   clear HO0_5 BK0 BK118 BK119 HK HB
   have HO0_5 := n0_
   have BK0 := n1_
   have BK118 := n2_
   have BK119 := n3_
   have HK := n4_
   have HB := n5_
   clear n0_ n1_ n2_ n3_ n4_ n5_
   refine start_ (n := 21) (S := fun w' => w'.cell? ⟨gb118, 0, none⟩ = some (.int .i64 a1_0) ∧ w'.cell? ⟨gb118, 1, none⟩ = some (.string a1_1) ∧ w'.cell? ⟨gb118, 2, none⟩ = some (.int .i64 a1_2) ∧ w'.cell? ⟨gb118, 3, none⟩ = some (.int .i64 a1_3) ∧ w'.cell? ⟨gb118, 4, none⟩ = some (.int .i64 a1_4)) (ds := []) b3A0 zG83 rfl rfl ⟨(blk_cell BK118.out 0).trans rfl, (blk_cell BK118.out 1).trans rfl, (blk_cell BK118.out 2).trans rfl, (blk_cell BK118.out 3).trans rfl, (blk_cell BK118.out 4).trans rfl⟩ (fun hHeld => ?_); refine with_tabW impl_Stock_receive.tab3 impl_Stock_receive.bits3 (fun HT_ HW_ => ?_)
   generalize w7.drew = w17 at HO0_5 BK0 BK118 BK119 HK HB hHeld ⊢
   refine zP 0 12 b3A1 HT_ ?_
   refine zQ 1 13 b3A2 HT_ HW_ hHeld ?_
   refine one_ (i := 2) (N := some 14) b3A3 rfl rfl (one_of HT_.out zG83) zG84 (fun K hK => ?_)
   refine goes_ Try.func39 zG83 rfl #[.int .i64 a1_2, .int .i64 1, .int .i64 1000000] (by rfl) rfl rfl zG54 ?_
   with_reducible refine (impl_within.calls a1_2 1 1000000 true _ A11.out).mono ?_
   rintro e w' ⟨rfl, ⟨nd, rfl⟩⟩
   refine ⟨_, rfl, ?_⟩
   refine hK.out _ _ ⟨(blk_cell BK118.out 0).trans rfl, (blk_cell BK118.out 1).trans rfl, (blk_cell BK118.out 2).trans rfl, (blk_cell BK118.out 3).trans rfl, (blk_cell BK118.out 4).trans rfl⟩ (fun hHeld => ?_)
   clear hK K
   refine norm_ (a' := ?_) ?_ ?_
   rotate_left
   ·show Act.put _ (some 14) _ = _
    simp only [Act.put, List.setIfInBounds_toArray, List.set_cons_zero, List.set_cons_succ, i64_w, i32_w]
    rfl
   refine zP 3 15 b3A4 HT_ ?_
   refine zP 4 16 b3A5 HT_ ?_
   refine zP 5 17 b3A6 HT_ ?_
   refine zQ 6 18 b3A7 HT_ HW_ hHeld ?_
   refine one_ (i := 7) (N := some 19) b3A8 rfl rfl (one_of HT_.out zG83) zG84 (fun K hK => ?_)
   refine goes_ Try.func39 zG83 rfl #[.int .i64 a1_3, .int .i64 1, .int .i64 100000] (by rfl) rfl rfl zG54 ?_
   with_reducible refine (impl_within.calls a1_3 1 100000 false _ A13.out).mono ?_
   rintro e w' ⟨rfl, ⟨nd, rfl⟩⟩
   refine ⟨_, rfl, ?_⟩
   refine hK.out _ _ ⟨(blk_cell BK118.out 0).trans rfl, (blk_cell BK118.out 1).trans rfl, (blk_cell BK118.out 2).trans rfl, (blk_cell BK118.out 3).trans rfl, (blk_cell BK118.out 4).trans rfl⟩ (fun hHeld => ?_)
   clear hK K
   refine norm_ (a' := ?_) ?_ ?_
   rotate_left
   ·show Act.put _ (some 19) _ = _
    simp only [Act.put, List.setIfInBounds_toArray, List.set_cons_zero, List.set_cons_succ, i64_w, i32_w]
    rfl
   refine zP 8 20 b3A9 HT_ ?_
   refine zP 9 21 b3A10 HT_ ?_
   refine zP 10 22 b3A11 HT_ ?_
   refine zU 11 23 b3A12 HT_ ?_
   refine zU 12 24 b3A19 HT_ ?_
   refine zU 13 25 b3A20 HT_ ?_
   refine zU 14 26 b3A21 HT_ ?_
   refine zU 15 27 b3A13 HT_ ?_
   refine zU 16 28 b3A14 HT_ ?_
   refine zU 17 29 b3A15 HT_ ?_
   refine zU 18 30 b3A16 HT_ ?_
   refine zP 19 31 b3A17 HT_ ?_
   refine zP 20 11 b3A18 HT_ ?_
   refine done_ (done_of HT_.out zG83) ?_
   try go_wp2
   go_meet
   case rel => exact ⟨_, (true), zG82, H', ⟨zH84⟩, ⟨zH71⟩, ⟨zH67⟩, ⟨zH62⟩, ⟨zH63⟩, ⟨zH5⟩, ⟨zH16⟩⟩
  subst c14
  have H1 : ((impl_within.f a1_4 a0_0 100000).bind fun t123 => (impl_Stock_receive.j0 k (!t123) a0_0 a0_1 a0_2 a0_3 a0_4 l0_5 a1_0 a1_1 a1_2 a1_3 a1_4)) = some (r1, r2, r3, r4, r5, r6, r7, r8) := by rw [if_pos rfl] at H; exact H
  clear H
  have H := H1
  clear H1
  replace H := Option.bind_eq_some_iff.mp H
  obtain ⟨t123, A150, H⟩ := H
  replace H : (impl_Stock_receive.j0 k (!t123) a0_0 a0_1 a0_2 a0_3 a0_4 l0_5 a1_0 a1_1 a1_2 a1_3 a1_4) = some (r1, r2, r3, r4, r5, r6, r7, r8) := H
  have A15 := za A150
  clear A150
  have H' := za H
  clear H
  try go_wp2
  obtain ⟨n0_, n1_, n2_, n3_, n4_, n5_⟩ := zD6 (zn HO0_5.out) (zg BK0.out) (zg BK118.out) (zg BK119.out) (Kept.drew HK.out) (zh HB.out)
  clear HO0_5 BK0 BK118 BK119 HK HB
  have HO0_5 := n0_
  have BK0 := n1_
  have BK118 := n2_
  have BK119 := n3_
  have HK := n4_
  have HB := n5_
  clear n0_ n1_ n2_ n3_ n4_ n5_
  refine start_ (n := 21) (S := fun w' => w'.cell? ⟨gb118, 0, none⟩ = some (.int .i64 a1_0) ∧ w'.cell? ⟨gb118, 1, none⟩ = some (.string a1_1) ∧ w'.cell? ⟨gb118, 2, none⟩ = some (.int .i64 a1_2) ∧ w'.cell? ⟨gb118, 3, none⟩ = some (.int .i64 a1_3) ∧ w'.cell? ⟨gb118, 4, none⟩ = some (.int .i64 a1_4) ∧ w'.cell? ⟨gi0, 0, none⟩ = some (.int .i64 a0_0) ∧ w'.cell? ⟨gi0, 1, none⟩ = some (.int .i64 a0_1) ∧ w'.cell? ⟨gi0, 2, none⟩ = some (.int .i64 a0_2) ∧ w'.cell? ⟨gi0, 3, none⟩ = some (.int .i64 a0_3) ∧ w'.cell? ⟨gi0, 4, none⟩ = some (.int .i64 a0_4) ∧ w'.cell? ⟨gi0, 5, none⟩ = some (u9000_)) (ds := []) b3A0 zG83 rfl rfl ⟨(blk_cell BK118.out 0).trans rfl, (blk_cell BK118.out 1).trans rfl, (blk_cell BK118.out 2).trans rfl, (blk_cell BK118.out 3).trans rfl, (blk_cell BK118.out 4).trans rfl, (blk_cell BK0.out 0).trans rfl, (blk_cell BK0.out 1).trans rfl, (blk_cell BK0.out 2).trans rfl, (blk_cell BK0.out 3).trans rfl, (blk_cell BK0.out 4).trans rfl, (blk_cell BK0.out 5).trans rfl⟩ (fun hHeld => ?_); refine with_tabW impl_Stock_receive.tab3 impl_Stock_receive.bits3 (fun HT_ HW_ => ?_)
  generalize w7.drew = w16 at HO0_5 BK0 BK118 BK119 HK HB hHeld ⊢
  refine zP 0 12 b3A1 HT_ ?_
  refine zQ 1 13 b3A2 HT_ HW_ hHeld ?_
  refine one_ (i := 2) (N := some 14) b3A3 rfl rfl (one_of HT_.out zG83) zG84 (fun K hK => ?_)
  refine goes_ Try.func39 zG83 rfl #[.int .i64 a1_2, .int .i64 1, .int .i64 1000000] (by rfl) rfl rfl zG54 ?_
  with_reducible refine (impl_within.calls a1_2 1 1000000 true _ A11.out).mono ?_
  rintro e w' ⟨rfl, ⟨nd, rfl⟩⟩
  refine ⟨_, rfl, ?_⟩
  refine hK.out _ _ ⟨(blk_cell BK118.out 0).trans rfl, (blk_cell BK118.out 1).trans rfl, (blk_cell BK118.out 2).trans rfl, (blk_cell BK118.out 3).trans rfl, (blk_cell BK118.out 4).trans rfl, (blk_cell BK0.out 0).trans rfl, (blk_cell BK0.out 1).trans rfl, (blk_cell BK0.out 2).trans rfl, (blk_cell BK0.out 3).trans rfl, (blk_cell BK0.out 4).trans rfl, (blk_cell BK0.out 5).trans rfl⟩ (fun hHeld => ?_)
  clear hK K
  refine norm_ (a' := ?_) ?_ ?_
  rotate_left
  ·show Act.put _ (some 14) _ = _
   simp only [Act.put, List.setIfInBounds_toArray, List.set_cons_zero, List.set_cons_succ, i64_w, i32_w]
   rfl
  refine zP 3 15 b3A4 HT_ ?_
  refine zP 4 16 b3A5 HT_ ?_
  refine zP 5 17 b3A6 HT_ ?_
  refine zQ 6 18 b3A7 HT_ HW_ hHeld ?_
  refine one_ (i := 7) (N := some 19) b3A8 rfl rfl (one_of HT_.out zG83) zG84 (fun K hK => ?_)
  refine goes_ Try.func39 zG83 rfl #[.int .i64 a1_3, .int .i64 1, .int .i64 100000] (by rfl) rfl rfl zG54 ?_
  with_reducible refine (impl_within.calls a1_3 1 100000 true _ A13.out).mono ?_
  rintro e w' ⟨rfl, ⟨nd, rfl⟩⟩
  refine ⟨_, rfl, ?_⟩
  refine hK.out _ _ ⟨(blk_cell BK118.out 0).trans rfl, (blk_cell BK118.out 1).trans rfl, (blk_cell BK118.out 2).trans rfl, (blk_cell BK118.out 3).trans rfl, (blk_cell BK118.out 4).trans rfl, (blk_cell BK0.out 0).trans rfl, (blk_cell BK0.out 1).trans rfl, (blk_cell BK0.out 2).trans rfl, (blk_cell BK0.out 3).trans rfl, (blk_cell BK0.out 4).trans rfl, (blk_cell BK0.out 5).trans rfl⟩ (fun hHeld => ?_)
  clear hK K
  refine norm_ (a' := ?_) ?_ ?_
  rotate_left
  ·show Act.put _ (some 19) _ = _
   simp only [Act.put, List.setIfInBounds_toArray, List.set_cons_zero, List.set_cons_succ, i64_w, i32_w]
   rfl
  refine zP 8 20 b3A9 HT_ ?_
  refine zP 9 21 b3A10 HT_ ?_
  refine zP 10 22 b3A11 HT_ ?_
  refine zP 11 23 b3A12 HT_ ?_
  refine zP 13 25 #[true, true, true, true, true, true, true, true, true, true, true, true, false, true, false, false, false, false, false, false, false] HT_ ?_
  refine zP 14 26 #[true, true, true, true, true, true, true, true, true, true, true, true, false, true, true, false, false, false, false, false, false] HT_ ?_
  refine zP 15 27 #[true, true, true, true, true, true, true, true, true, true, true, true, false, true, true, true, false, false, false, false, false] HT_ ?_
  refine zQ 12 24 b3A13 HT_ HW_ hHeld ?_
  refine zQ 16 28 b3A14 HT_ HW_ hHeld ?_
  refine one_ (i := 17) (N := some 29) b3A15 rfl rfl (one_of HT_.out zG83) zG84 (fun K hK => ?_)
  refine goes_ Try.func39 zG83 rfl #[.int .i64 a1_4, .int .i64 a0_0, .int .i64 100000] (by rfl) rfl rfl zG54 ?_
  with_reducible refine (impl_within.calls a1_4 a0_0 100000 t123 _ A15.out).mono ?_
  rintro e w' ⟨rfl, ⟨nd, rfl⟩⟩
  refine ⟨_, rfl, ?_⟩
  refine hK.out _ _ ⟨(blk_cell BK118.out 0).trans rfl, (blk_cell BK118.out 1).trans rfl, (blk_cell BK118.out 2).trans rfl, (blk_cell BK118.out 3).trans rfl, (blk_cell BK118.out 4).trans rfl, (blk_cell BK0.out 0).trans rfl, (blk_cell BK0.out 1).trans rfl, (blk_cell BK0.out 2).trans rfl, (blk_cell BK0.out 3).trans rfl, (blk_cell BK0.out 4).trans rfl, (blk_cell BK0.out 5).trans rfl⟩ (fun hHeld => ?_)
  clear hK K
  refine norm_ (a' := ?_) ?_ ?_
  rotate_left
  ·show Act.put _ (some 29) _ = _
   simp only [Act.put, List.setIfInBounds_toArray, List.set_cons_zero, List.set_cons_succ, i64_w, i32_w]
   rfl
  refine zP 18 30 b3A16 HT_ ?_
  refine zP 19 31 b3A17 HT_ ?_
  refine zP 20 11 b3A18 HT_ ?_
  refine done_ (done_of HT_.out zG83) ?_
  try go_wp2
  go_meet
  case rel => exact ⟨_, (!t123), zG82, H', ⟨zH84⟩, ⟨zH71⟩, ⟨zH67⟩, ⟨zH62⟩, ⟨zH63⟩, ⟨zH5⟩, ⟨zH16⟩⟩
 case rest =>
  clear HC5
  try clear c4
  try clear c12
  try clear c14
  try clear hcz10_0
  try clear hcz10_1
  try clear hcz10_2
  try clear hcz10_3
  try clear hcz10_4
  try clear hfz10_0
  try clear hfz10_1
  try clear hfz10_2
  try clear hfz10_3
  try clear hfz10_4
  obtain ⟨kq, x11_4, rfl, HA, HJ4, HO_1005, BK0, BK118, BK119, HK, HB⟩ := hcut
  cases kq with
  | zero => exact absurd HA.out (by simp [impl_Stock_receive.j0])
  | succ kj4 =>
   have H := HA.out
   clear HA
   simp only [impl_Stock_receive.j0] at H
   by_cases c19 : x11_4 = true
   ·subst c19
    have H1 : (some (5, 0, a0_0, a0_1, a0_2, a0_3, a0_4, l0_5)) = some (r1, r2, r3, r4, r5, r6, r7, r8) := by rw [if_pos rfl] at H; exact H
    clear H
    have H := H1
    clear H1
    simp only [Option.some.injEq, Prod.mk.injEq] at H
    obtain ⟨rfl, rfl, rfl, rfl, rfl, rfl, rfl, rfl⟩ := H
    have hnb20 := NB119_0.out
    have hnc20 := NB0_119.out
    have hnb21 := NB119_118.out
    have hnc21 := NB118_119.out
    obtain ⟨hcz22_0, hcz22_1, hfz22_0, hfz22_1⟩ := zB2 BK119.out
    go_wp2
    refine bodyPost_ret (results_cell_row rfl _ _ gb119 36 (zo2 5 0) (0, 0) _ rfl (by (with_reducible repeat (first | refine zf ?_ _ | refine zg ?_ | refine ze ?_ _)); refine zu (cs := (zo2 5 0)) ?_ 1 _ rfl; (with_reducible repeat (first | refine zf ?_ _ | refine zg ?_ | refine ze ?_ _)); refine zu (cs := (zo2 0 0)) ?_ 0 _ rfl; (with_reducible repeat (first | refine zf ?_ _ | refine zg ?_ | refine ze ?_ _)); exact BK119.out) Try.underlying36 rfl zG83) rfl ?_
    exact ⟨_, zH68, by (with_reducible repeat (first | apply zk | apply zl | apply zn)); exact zs (zm (p := ⟨gb119, 1, none⟩) (zm (p := ⟨gb119, 0, none⟩) (zw HO_1005.out BK119.out zG84) (fun _ hk => hk.2) (.int .i64 5)) (fun _ hk => hk.2) (.int .i64 0)) (fun _ hk => hk.1), zK114, zH16, zH5⟩
   replace c19 := Bool.eq_false_iff.mpr c19
   subst c19
   have H1 : ((impl_Stock_lotAt.f kj4 a0_0 a0_1 a0_2 a0_3 a0_4 l0_5 a1_1 a1_2).bind fun bt124 => (if bt124.1 ≥ 0 then (some (7, 0, bt124.2.1, bt124.2.2.1, bt124.2.2.2.1, bt124.2.2.2.2.1, bt124.2.2.2.2.2.1, bt124.2.2.2.2.2.2)) else (if (bt124.2.2.2.2.2.2.length : Int) = 60 then (some (14, 0, bt124.2.1, bt124.2.2.1, bt124.2.2.2.1, bt124.2.2.2.2.1, bt124.2.2.2.2.2.1, bt124.2.2.2.2.2.2)) else (if bt124.2.2.2.2.2.2.length < 2932031007402 then (some (0, a1_3, bt124.2.1, wrap64 (bt124.2.2.1 + a1_3), bt124.2.2.2.1, bt124.2.2.2.2.1, bt124.2.2.2.2.2.1, (bt124.2.2.2.2.2.2 ++ [(⟨a1_1, a1_2, a1_3, a1_4, false⟩ : S38)]))) else (none))))) = some (r1, r2, r3, r4, r5, r6, r7, r8) := by rw [if_neg (show ¬ (false = true) by decide)] at H; exact H
   clear H
   have H := H1
   clear H1
   replace H := Option.bind_eq_some_iff.mp H
   obtain ⟨⟨t124, t125, t126, t127, t128, t129, t130⟩, A230, H⟩ := H
   replace H : (if t124 ≥ 0 then (some (7, 0, t125, t126, t127, t128, t129, t130)) else (if (t130.length : Int) = 60 then (some (14, 0, t125, t126, t127, t128, t129, t130)) else (if t130.length < 2932031007402 then (some (0, a1_3, t125, wrap64 (t126 + a1_3), t127, t128, t129, (t130 ++ [(⟨a1_1, a1_2, a1_3, a1_4, false⟩ : S38)]))) else (none)))) = some (r1, r2, r3, r4, r5, r6, r7, r8) := H
   have A23 := za A230
   clear A230
   by_cases c24 : t124 ≥ 0
   ·rw [if_pos c24] at H
    have c24b0 : decide (0 ≤ t124) = true := decide_eq_true c24
    clear c24
    simp only [Option.some.injEq, Prod.mk.injEq] at H
    obtain ⟨rfl, rfl, rfl, rfl, rfl, rfl, rfl, rfl⟩ := H
    have hnb25 := NB118_0.out
    have hnc25 := NB0_118.out
    have hnb26 := NB118_119.out
    have hnc26 := NB119_118.out
    obtain ⟨hcz27_0, hcz27_1, hcz27_2, hcz27_3, hcz27_4, hfz27_0, hfz27_1, hfz27_2, hfz27_3, hfz27_4⟩ := zB5 BK118.out
    obtain ⟨Ao28, co28, eo28⟩ := zx HO_1005.out
    subst eo28
    go_wp2_with (first | ((with_reducible refine gate_callee (f := 50) rfl ?_); refine goesL_ (some 39) rfl rfl Try.func50 zG83 rfl #[.pointer (some ⟨gi0, 0, none⟩), .string a1_1, .int .i64 a1_2] rfl zG54 ?_; (with_reducible refine (impl_Stock_lotAt.calls kj4 gi0 a0_0 a0_1 a0_2 a0_3 a0_4 (fun k_ => some k_ = (.slice Ao28 l0_5.length co28 : Value).ownBlock) (.slice Ao28 l0_5.length co28) l0_5 a1_1 a1_2 t124 t125 t126 t127 t128 t129 t130 w0 _ ?side1 ?side2 ?side3 ?side4 A23.out).mono ?_); (case side1 => exact zH17); (case side2 => exact zG71); (case side3 => exact GE0.out); (case side4 => exact zaj rfl HO_1005.out); rintro e w29 ⟨v131, rfl, ho0, hz0, hb, hkp⟩; refine ⟨_, rfl, ?_⟩; have n_ := zA_ (za (hz0)) (zA_ (za (zab zK153 hkp (fun hs_ => Or.elim hs_ (fun hs_ => (fun e_ => (zad HO_1005.out BK118.out zG84) e_) hs_) (fun e_ => NB118_0.out e_)))) (zA_ (za (zab zK154 hkp (fun hs_ => Or.elim hs_ (fun hs_ => (fun e_ => (zad HO_1005.out BK119.out zG84) e_) hs_) (fun e_ => NB119_0.out e_)))) (zA_ (za (zs (ok' := fun k_ => (P0_5_ k_ ∨ w.heap.size ≤ k_)) ho0 (fun k_ hk_ => Or.elim hk_ (fun hs_ => (HO_1005.out.1 k_ (hs_).symm)) (fun hn_ => (.inr (Nat.le_trans zK113 hn_)))))) (zA_ (za (Kept.then_ (S := (fun k_ => (P0_5_ k_) ∨ k_ = gi0)) zK127 hkp (fun k_ hs_ => Or.elim hs_ (fun hs_ => (fun e_ => (Or.imp_left (fun z_ => (Or.inl z_)) ((HO_1005.out.1 k_ e_.symm)))) hs_) (fun e_ => .inl (Or.inr e_))))) (za (hb)))))); clear BK0 BK118 BK119 HK HB HO_1005; obtain ⟨BK0, BK118, BK119, HO132, HK, HB⟩ := n_; (try clear hb); (try clear hkp); (try clear ho0); (try clear hz0); have hnb30 := NB119_0.out; have hnc30 := NB0_119.out; obtain ⟨hcz31_0, hcz31_1, hfz31_0, hfz31_1⟩ := zB2 BK119.out))
    refine bodyPost_ret (results_cell_row rfl _ _ gb119 36 (zo2 7 0) (0, 0) _ rfl (by (with_reducible repeat (first | refine zf ?_ _ | refine zg ?_ | refine ze ?_ _)); refine zu (cs := (zo2 7 0)) ?_ 1 _ rfl; (with_reducible repeat (first | refine zf ?_ _ | refine zg ?_ | refine ze ?_ _)); refine zu (cs := (zo2 0 0)) ?_ 0 _ rfl; (with_reducible repeat (first | refine zf ?_ _ | refine zg ?_ | refine ze ?_ _)); exact BK119.out) Try.underlying36 rfl zG83) rfl ?_
    exact ⟨_, zH68, by (with_reducible repeat (first | apply zk | apply zl | apply zn)); exact zs (zm (p := ⟨gb119, 1, none⟩) (zm (p := ⟨gb119, 0, none⟩) (zw HO132.out BK119.out zG84) (fun _ hk => hk.2) (.int .i64 7)) (fun _ hk => hk.2) (.int .i64 0)) (fun _ hk => hk.1), zK114, zH16, zH5⟩
   rw [if_neg c24] at H
   have c24b0 : decide (0 ≤ t124) = false := decide_eq_false c24
   clear c24
   by_cases c32 : (t130.length : Int) = 60
   ·rw [if_pos c32] at H
    have c32b0 : ((t130.length : Int) == 60) = true := beq_iff_eq.mpr c32
    have c32b1 : ((t130.length : Int) != 60) = false := bne_eq_false_iff_eq.mpr c32
    clear c32
    simp only [Option.some.injEq, Prod.mk.injEq] at H
    obtain ⟨rfl, rfl, rfl, rfl, rfl, rfl, rfl, rfl⟩ := H
    have hnb33 := NB118_0.out
    have hnc33 := NB0_118.out
    have hnb34 := NB118_119.out
    have hnc34 := NB119_118.out
    obtain ⟨hcz35_0, hcz35_1, hcz35_2, hcz35_3, hcz35_4, hfz35_0, hfz35_1, hfz35_2, hfz35_3, hfz35_4⟩ := zB5 BK118.out
    obtain ⟨Ao36, co36, eo36⟩ := zx HO_1005.out
    subst eo36
    go_wp2_with (first | ((with_reducible refine gate_callee (f := 50) rfl ?_); refine goesL_ (some 39) rfl rfl Try.func50 zG83 rfl #[.pointer (some ⟨gi0, 0, none⟩), .string a1_1, .int .i64 a1_2] rfl zG54 ?_; (with_reducible refine (impl_Stock_lotAt.calls kj4 gi0 a0_0 a0_1 a0_2 a0_3 a0_4 (fun k_ => some k_ = (.slice Ao36 l0_5.length co36 : Value).ownBlock) (.slice Ao36 l0_5.length co36) l0_5 a1_1 a1_2 t124 t125 t126 t127 t128 t129 t130 w0 _ ?side1 ?side2 ?side3 ?side4 A23.out).mono ?_); (case side1 => exact zH17); (case side2 => exact zG71); (case side3 => exact GE0.out); (case side4 => exact zaj rfl HO_1005.out); rintro e w37 ⟨v131, rfl, ho0, hz0, hb, hkp⟩; refine ⟨_, rfl, ?_⟩; have n_ := zA_ (za (hz0)) (zA_ (za (zab zK153 hkp (fun hs_ => Or.elim hs_ (fun hs_ => (fun e_ => (zad HO_1005.out BK118.out zG84) e_) hs_) (fun e_ => NB118_0.out e_)))) (zA_ (za (zab zK154 hkp (fun hs_ => Or.elim hs_ (fun hs_ => (fun e_ => (zad HO_1005.out BK119.out zG84) e_) hs_) (fun e_ => NB119_0.out e_)))) (zA_ (za (zs (ok' := fun k_ => (P0_5_ k_ ∨ w.heap.size ≤ k_)) ho0 (fun k_ hk_ => Or.elim hk_ (fun hs_ => (HO_1005.out.1 k_ (hs_).symm)) (fun hn_ => (.inr (Nat.le_trans zK113 hn_)))))) (zA_ (za (Kept.then_ (S := (fun k_ => (P0_5_ k_) ∨ k_ = gi0)) zK127 hkp (fun k_ hs_ => Or.elim hs_ (fun hs_ => (fun e_ => (Or.imp_left (fun z_ => (Or.inl z_)) ((HO_1005.out.1 k_ e_.symm)))) hs_) (fun e_ => .inl (Or.inr e_))))) (za (hb)))))); clear BK0 BK118 BK119 HK HB HO_1005; obtain ⟨BK0, BK118, BK119, HO132, HK, HB⟩ := n_; (try clear hb); (try clear hkp); (try clear ho0); (try clear hz0); have hnb38 := NB0_119.out; have hnc38 := NB119_0.out; obtain ⟨hcz39_0, hcz39_1, hcz39_2, hcz39_3, hcz39_4, hcz39_5, hfz39_0, hfz39_1, hfz39_2, hfz39_3, hfz39_4, hfz39_5⟩ := zB6 BK0.out; obtain ⟨Ao40, co40, eo40⟩ := zx HO132.out; subst eo40; obtain ⟨hcz41_0, hcz41_1, hfz41_0, hfz41_1⟩ := zB2 BK119.out))
    refine bodyPost_ret (results_cell_row rfl _ _ gb119 36 (zo2 14 0) (0, 0) _ rfl (by (with_reducible repeat (first | refine zf ?_ _ | refine zg ?_ | refine ze ?_ _)); refine zu (cs := (zo2 14 0)) ?_ 1 _ rfl; (with_reducible repeat (first | refine zf ?_ _ | refine zg ?_ | refine ze ?_ _)); refine zu (cs := (zo2 0 0)) ?_ 0 _ rfl; (with_reducible repeat (first | refine zf ?_ _ | refine zg ?_ | refine ze ?_ _)); exact BK119.out) Try.underlying36 rfl zG83) rfl ?_
    exact ⟨_, zH68, by (with_reducible repeat (first | apply zk | apply zl | apply zn)); exact zs (zm (p := ⟨gb119, 1, none⟩) (zm (p := ⟨gb119, 0, none⟩) (zw HO132.out BK119.out zG84) (fun _ hk => hk.2) (.int .i64 14)) (fun _ hk => hk.2) (.int .i64 0)) (fun _ hk => hk.1), zK114, zH16, zH5⟩
   rw [if_neg c32] at H
   have c32b0 : ((t130.length : Int) == 60) = false := beq_eq_false_iff_ne.mpr c32
   have c32b1 : ((t130.length : Int) != 60) = true := bne_iff_ne.mpr c32
   by_cases c42 : t130.length < 2932031007402
   rotate_left
   ·rw [if_neg c42] at H
    exact absurd H (by simp)
   rw [if_pos c42] at H
   have LMc42 := za c42
   clear c42
   obtain ⟨y133, hy133⟩ : ∃ y_ : List (S38), y_ = (t130 ++ [(⟨a1_1, a1_2, a1_3, a1_4, false⟩ : S38)]) := ⟨_, rfl⟩
   replace H : (some (0, a1_3, t125, wrap64 (t126 + a1_3), t127, t128, t129, y133)) = some (r1, r2, r3, r4, r5, r6, r7, r8) := by first | (rw [hy133]; with_reducible exact H) | (have H2_ := (Option.bind_some _ _).symm.trans H; rw [hy133]; with_reducible exact H2_) | (have H2_ := (Option.bind_some _ _).symm.trans H; with_reducible exact H2_) | with_reducible exact H | (rw [hy133]; exact H) | exact H
   have Ny133 := za hy133
   clear hy133
   simp only [Option.some.injEq, Prod.mk.injEq] at H
   obtain ⟨rfl, rfl, rfl, rfl, rfl, rfl, rfl, rfl⟩ := H
   have hnb43 := NB118_0.out
   have hnc43 := NB0_118.out
   have hnb44 := NB118_119.out
   have hnc44 := NB119_118.out
   obtain ⟨hcz45_0, hcz45_1, hcz45_2, hcz45_3, hcz45_4, hfz45_0, hfz45_1, hfz45_2, hfz45_3, hfz45_4⟩ := zB5 BK118.out
   obtain ⟨Ao46, co46, eo46⟩ := zx HO_1005.out
   subst eo46
   try go_wp2_with (first | ((with_reducible refine gate_callee (f := 50) rfl ?_); refine goesL_ (some 39) rfl rfl Try.func50 zG83 rfl #[.pointer (some ⟨gi0, 0, none⟩), .string a1_1, .int .i64 a1_2] rfl zG54 ?_; (with_reducible refine (impl_Stock_lotAt.calls kj4 gi0 a0_0 a0_1 a0_2 a0_3 a0_4 (fun k_ => some k_ = (.slice Ao46 l0_5.length co46 : Value).ownBlock) (.slice Ao46 l0_5.length co46) l0_5 a1_1 a1_2 t124 t125 t126 t127 t128 t129 t130 w0 _ ?side1 ?side2 ?side3 ?side4 A23.out).mono ?_); (case side1 => exact zH17); (case side2 => exact zG71); (case side3 => exact GE0.out); (case side4 => exact zaj rfl HO_1005.out); rintro e w47 ⟨v131, rfl, ho0, hz0, hb, hkp⟩; refine ⟨_, rfl, ?_⟩; have n_ := zA_ (za (hz0)) (zA_ (za (zab zK153 hkp (fun hs_ => Or.elim hs_ (fun hs_ => (fun e_ => (zad HO_1005.out BK118.out zG84) e_) hs_) (fun e_ => NB118_0.out e_)))) (zA_ (za (zab zK154 hkp (fun hs_ => Or.elim hs_ (fun hs_ => (fun e_ => (zad HO_1005.out BK119.out zG84) e_) hs_) (fun e_ => NB119_0.out e_)))) (zA_ (za (zs (ok' := fun k_ => (P0_5_ k_ ∨ w.heap.size ≤ k_)) ho0 (fun k_ hk_ => Or.elim hk_ (fun hs_ => (HO_1005.out.1 k_ (hs_).symm)) (fun hn_ => (.inr (Nat.le_trans zK113 hn_)))))) (zA_ (za (Kept.then_ (S := (fun k_ => (P0_5_ k_) ∨ k_ = gi0)) zK127 hkp (fun k_ hs_ => Or.elim hs_ (fun hs_ => (fun e_ => (Or.imp_left (fun z_ => (Or.inl z_)) ((HO_1005.out.1 k_ e_.symm)))) hs_) (fun e_ => .inl (Or.inr e_))))) (za (hb)))))); clear BK0 BK118 BK119 HK HB HO_1005; obtain ⟨BK0, BK118, BK119, HO132, HK, HB⟩ := n_; (try clear hb); (try clear hkp); (try clear ho0); (try clear hz0); have hnb48 := NB0_119.out; have hnc48 := NB119_0.out; obtain ⟨hcz49_0, hcz49_1, hcz49_2, hcz49_3, hcz49_4, hcz49_5, hfz49_0, hfz49_1, hfz49_2, hfz49_3, hfz49_4, hfz49_5⟩ := zB6 BK0.out; obtain ⟨Ao50, co50, eo50⟩ := zx HO132.out; subst eo50))
   obtain ⟨n0_, n1_, n2_, n3_, n4_, n5_⟩ := zD6 (zn HO132.out) (zg BK0.out) (zg BK118.out) (zg BK119.out) (Kept.drew HK.out) (zh HB.out)
   clear HO132 BK0 BK118 BK119 HK HB
   have HO132 := n0_
   have BK0 := n1_
   have BK118 := n2_
   have BK119 := n3_
   have HK := n4_
   have HB := n5_
   clear n0_ n1_ n2_ n3_ n4_ n5_
   refine start_ (n := 19) (S := fun w' => w'.cell? ⟨gi0, 0, none⟩ = some (.int .i64 t125) ∧ w'.cell? ⟨gi0, 1, none⟩ = some (.int .i64 t126) ∧ w'.cell? ⟨gi0, 2, none⟩ = some (.int .i64 t127) ∧ w'.cell? ⟨gi0, 3, none⟩ = some (.int .i64 t128) ∧ w'.cell? ⟨gi0, 4, none⟩ = some (.int .i64 t129) ∧ w'.cell? ⟨gi0, 5, none⟩ = some (.slice Ao50 t130.length co50) ∧ w'.cell? ⟨gb118, 0, none⟩ = some (.int .i64 a1_0) ∧ w'.cell? ⟨gb118, 1, none⟩ = some (.string a1_1) ∧ w'.cell? ⟨gb118, 2, none⟩ = some (.int .i64 a1_2) ∧ w'.cell? ⟨gb118, 3, none⟩ = some (.int .i64 a1_3) ∧ w'.cell? ⟨gb118, 4, none⟩ = some (.int .i64 a1_4)) (ds := [18]) #[false, false, false, false, false, false, false, false, false, false, false, false, false, false, false, false, false, false, false] zG83 rfl rfl ⟨(blk_cell BK0.out 0).trans rfl, (blk_cell BK0.out 1).trans rfl, (blk_cell BK0.out 2).trans rfl, (blk_cell BK0.out 3).trans rfl, (blk_cell BK0.out 4).trans rfl, (blk_cell BK0.out 5).trans rfl, (blk_cell BK118.out 0).trans rfl, (blk_cell BK118.out 1).trans rfl, (blk_cell BK118.out 2).trans rfl, (blk_cell BK118.out 3).trans rfl, (blk_cell BK118.out 4).trans rfl⟩ (fun hHeld => ?_); refine with_tabW impl_Stock_receive.tab9 impl_Stock_receive.bits9 (fun HT_ HW_ => ?_)
   generalize w47.drew = w51 at HO132 BK0 BK118 BK119 HK HB hHeld ⊢
   refine zP 0 50 #[true, false, false, false, false, false, false, false, false, false, false, false, false, false, false, false, false, false, false] HT_ ?_
   refine zP 1 51 #[true, true, false, false, false, false, false, false, false, false, false, false, false, false, false, false, false, false, false] HT_ ?_
   refine zP 2 52 #[true, true, true, false, false, false, false, false, false, false, false, false, false, false, false, false, false, false, false] HT_ ?_
   refine zP 3 53 #[true, true, true, true, false, false, false, false, false, false, false, false, false, false, false, false, false, false, false] HT_ ?_
   refine zP 5 55 #[true, true, true, true, false, true, false, false, false, false, false, false, false, false, false, false, false, false, false] HT_ ?_
   refine zP 7 57 #[true, true, true, true, false, true, false, true, false, false, false, false, false, false, false, false, false, false, false] HT_ ?_
   refine zP 9 59 #[true, true, true, true, false, true, false, true, false, true, false, false, false, false, false, false, false, false, false] HT_ ?_
   refine zP 11 61 #[true, true, true, true, false, true, false, true, false, true, false, true, false, false, false, false, false, false, false] HT_ ?_
   refine zQ 4 54 #[true, true, true, true, true, true, false, true, false, true, false, true, false, false, false, false, false, false, false] HT_ HW_ hHeld ?_
   refine zQ 6 56 #[true, true, true, true, true, true, true, true, false, true, false, true, false, false, false, false, false, false, false] HT_ HW_ hHeld ?_
   refine zQ 8 58 #[true, true, true, true, true, true, true, true, true, true, false, true, false, false, false, false, false, false, false] HT_ HW_ hHeld ?_
   refine zQ 10 60 #[true, true, true, true, true, true, true, true, true, true, true, true, false, false, false, false, false, false, false] HT_ HW_ hHeld ?_
   refine zQ 12 62 #[true, true, true, true, true, true, true, true, true, true, true, true, true, false, false, false, false, false, false] HT_ HW_ hHeld ?_
   refine zP 13 63 #[true, true, true, true, true, true, true, true, true, true, true, true, true, true, false, false, false, false, false] HT_ ?_
   refine one_ (i := 14) (N := some 64) #[true, true, true, true, true, true, true, true, true, true, true, true, true, true, true, false, false, false, false] rfl rfl (one_of HT_.out zG83) zG84 (fun K hK => ?_)
   refine value_ (w1 := ?_) (v := ?_) (by rfl) rfl ?_ ?_
   rotate_left 2
   ·go_simp
    constructor
    ·rfl
    ·rfl
   refine hK.out _ _ ⟨(blk_cell (ze BK0.out _) 0).trans rfl, (blk_cell (ze BK0.out _) 1).trans rfl, (blk_cell (ze BK0.out _) 2).trans rfl, (blk_cell (ze BK0.out _) 3).trans rfl, (blk_cell (ze BK0.out _) 4).trans rfl, (blk_cell (ze BK0.out _) 5).trans rfl, (blk_cell (ze BK118.out _) 0).trans rfl, (blk_cell (ze BK118.out _) 1).trans rfl, (blk_cell (ze BK118.out _) 2).trans rfl, (blk_cell (ze BK118.out _) 3).trans rfl, (blk_cell (ze BK118.out _) 4).trans rfl⟩ (fun hHeld => ?_)
   clear hK K
   refine norm_ (a' := ?_) ?_ ?_
   rotate_left
   ·show Act.put _ (some 64) _ = _
    simp only [Act.put, List.setIfInBounds_toArray, List.set_cons_zero, List.set_cons_succ, i64_w, i32_w]
    rfl
   refine one_ (i := 15) (N := some 65) #[true, true, true, true, true, true, true, true, true, true, true, true, true, true, true, true, false, false, false] rfl rfl (one_of HT_.out zG83) zG84 (fun K hK => ?_)
   refine Kd.R_append_step k38 (w0 := w0) w0.heap.size (by rfl) (.tmp 54) (.tmp 64) 27 38 (.agg #[(.string ⟨#[]⟩), (.int .i64 0), (.int .i64 0), (.int .i64 0), (.bool false)]) 48 rfl Try.underlying27 info38 rfl zG84 (by omega) (.slice Ao50 t130.length co50) t130 (⟨a1_1, a1_2, a1_3, a1_4, false⟩ : S38) [.string a1_1, .int .i64 a1_2, .int .i64 a1_3, .int .i64 a1_4, .bool false] (fun k_ => (P0_5_ k_ ∨ w.heap.size ≤ k_)) (fun _ => False) rfl rfl ?aP (fun _ hk => hk.elim) ?aF ?aO ?aB ?aS ?aL ?_
   (case aP => exact k38_mkM _ _ _ (⟨a1_1, a1_2, a1_3, a1_4, false⟩ : S38))
   (case aB => exact zK137)
   (case aF => exact (fun k_ hk => (.inr (Nat.le_trans zK113 hk))))
   (case aO => exact (by (with_reducible repeat (first | apply zk | apply zl | apply zn)); exact HO132.out))
   (case aS => exact (zp zK137))
   (case aL => have := LMc42.out; omega)
   intro v134 w52 ho hb hg hat
   rw [← Ny133.out] at ho
   obtain ⟨n0_, n1_, n2_, n3_, n4_, n5_⟩ := zD6 (zao (g := gi0) (o := .cells (zs6 t125 t126 t127 t128 t129 (.slice Ao50 t130.length co50)) 29 (0, 0)) zG71 hg (zad HO132.out BK0.out zG84)) (zao (g := gb118) (o := .cells (za5 a1_0 a1_1 a1_2 a1_3 a1_4) 34 (0, 0)) zK153 hg (zad HO132.out BK118.out zG84)) (zao (g := gb119) (o := .cells (zo2 0 0) 36 (0, 0)) zK154 hg (zad HO132.out BK119.out zG84)) (hb) (zah (S := (fun k_ => (P0_5_ k_) ∨ k_ = gi0)) hg zK127 (fun k_ e_ => (Or.imp_left (fun z_ => (Or.inl z_)) ((HO132.out.1 k_ e_))))) (ho)
   clear BK0 BK118 BK119 HB HK HO132
   have BK0 := n0_
   have BK118 := n1_
   have BK119 := n2_
   have HB := n3_
   have HK := n4_
   have HO135 := n5_
   clear n0_ n1_ n2_ n3_ n4_ n5_
   clear ho hb hg hat
   obtain ⟨Ao53, co53, eo53⟩ := zx HO135.out
   (first | subst eo53 | (injection eo53 with f1_ f2_ f3_; have f4_ := f1_.symm; have f5_ := f3_.symm; clear f1_ f2_ f3_; subst f4_; subst f5_))
   refine hK.out _ _ ⟨(blk_cell BK0.out 0).trans rfl, (blk_cell BK0.out 1).trans rfl, (blk_cell BK0.out 2).trans rfl, (blk_cell BK0.out 3).trans rfl, (blk_cell BK0.out 4).trans rfl, (blk_cell BK0.out 5).trans rfl, (blk_cell BK118.out 0).trans rfl, (blk_cell BK118.out 1).trans rfl, (blk_cell BK118.out 2).trans rfl, (blk_cell BK118.out 3).trans rfl, (blk_cell BK118.out 4).trans rfl⟩ (fun hHeld => ?_)
   clear hK K
   refine norm_ (a' := ?_) ?_ ?_
   rotate_left
   ·show Act.put _ (some 65) _ = _
    simp only [Act.put, List.setIfInBounds_toArray, List.set_cons_zero, List.set_cons_succ, i64_w, i32_w]
    rfl
   refine zP 16 66 #[true, true, true, true, true, true, true, true, true, true, true, true, true, true, true, true, true, false, false] HT_ ?_
   refine zP 17 67 #[true, true, true, true, true, true, true, true, true, true, true, true, true, true, true, true, true, true, false] HT_ ?_
   refine last_ (i := 18) (N := none) #[true, true, true, true, true, true, true, true, true, true, true, true, true, true, true, true, true, true, true] rfl rfl (one_of HT_.out zG83) zG84 (fun K hK => ?_)
   have hs54 : w52.cell? ⟨gi0, 5, none⟩ = some (.slice Ao50 t130.length co50) := (blk_cell BK0.out 5).trans rfl
   have hfs54 := zc BK0.out 5
   have hns54_1 := NB118_0.out
   have hns54_2 := NB119_0.out
   have hms54_1 := NB0_118.out
   have hms54_2 := NB0_119.out
   refine skip_ (w1 := ?_) (by rfl) rfl ?_ ?_
   rotate_left
   ·go_simp
    rfl
   refine hK.out _ _ ?_
   clear hK K
   refine done_ (done_of HT_.out zG83) ?_
   try go_wp2
   have n0_ : Aside0 (Kd.R k38 38 (w52.setCell ⟨gi0, 5, none⟩ (.slice Ao53 y133.length co53)) w0.heap.size (fun k_ => (P0_5_ k_ ∨ w.heap.size ≤ k_)) (.slice Ao53 y133.length co53) y133) := ⟨by (with_reducible repeat (first | apply zk | apply zl | apply zn)); exact zs (zm (p := ⟨gi0, 5, none⟩) (zw HO135.out BK0.out zG84) (fun _ hk => hk.2) (.slice Ao53 y133.length co53)) (fun _ hk => hk.1)⟩
   have n1_ : Aside0 ((w52.setCell ⟨gi0, 5, none⟩ (.slice Ao53 y133.length co53)).heap[gi0]? = some (.cells (zs6 t125 t126 t127 t128 t129 (.slice Ao53 y133.length co53)) 29 (0, 0))) := ⟨by (with_reducible repeat (first | refine zf ?_ _ | refine zg ?_ | refine ze ?_ _)); refine zu (cs := (zs6 t125 t126 t127 t128 t129 (.slice Ao50 t130.length co50))) ?_ 5 _ rfl; (with_reducible repeat (first | refine zf ?_ _ | refine zg ?_ | refine ze ?_ _)); exact BK0.out⟩
   have n2_ : Aside0 ((w52.setCell ⟨gi0, 5, none⟩ (.slice Ao53 y133.length co53)).heap[gb118]? = some (.cells (za5 a1_0 a1_1 a1_2 a1_3 a1_4) 34 (0, 0))) := ⟨by (with_reducible repeat (first | refine zf ?_ _ | refine zg ?_ | refine ze ?_ _)); refine zt ?_ NB118_0.out _; (with_reducible repeat (first | refine zf ?_ _ | refine zg ?_ | refine ze ?_ _)); exact BK118.out⟩
   have n3_ : Aside0 ((w52.setCell ⟨gi0, 5, none⟩ (.slice Ao53 y133.length co53)).heap[gb119]? = some (.cells (zo2 0 0) 36 (0, 0))) := ⟨by (with_reducible repeat (first | refine zf ?_ _ | refine zg ?_ | refine ze ?_ _)); refine zt ?_ NB119_0.out _; (with_reducible repeat (first | refine zf ?_ _ | refine zg ?_ | refine ze ?_ _)); exact BK119.out⟩
   have n4_ : Aside0 (Kept w (w52.setCell ⟨gi0, 5, none⟩ (.slice Ao53 y133.length co53)) (fun k_ => (P0_5_ k_) ∨ k_ = gi0)) := ⟨zH5⟩
   have n5_ : Aside0 (Below w0.heap.size w0 (w52.setCell ⟨gi0, 5, none⟩ (.slice Ao53 y133.length co53))) := ⟨zH16⟩
   (try clear HO135)
   (try clear BK0)
   (try clear BK118)
   (try clear BK119)
   (try clear HK)
   (try clear HB)
   generalize (w52.setCell ⟨gi0, 5, none⟩ (.slice Ao53 y133.length co53)) = w55 at n0_ n1_ n2_ n3_ n4_ n5_ ⊢
   have HO135 := n0_
   have BK0 := n1_
   have BK118 := n2_
   have BK119 := n3_
   have HK := n4_
   have HB := n5_
   clear n0_ n1_ n2_ n3_ n4_ n5_
   obtain ⟨n0_, n1_, n2_, n3_, n4_, n5_⟩ := zD6 (zn HO135.out) (zg BK0.out) (zg BK118.out) (zg BK119.out) (Kept.drew HK.out) (zh HB.out)
   clear HO135 BK0 BK118 BK119 HK HB
   have HO135 := n0_
   have BK0 := n1_
   have BK118 := n2_
   have BK119 := n3_
   have HK := n4_
   have HB := n5_
   clear n0_ n1_ n2_ n3_ n4_ n5_
   refine start_ (n := 10) (S := fun w' => w'.cell? ⟨gi0, 0, none⟩ = some (.int .i64 t125) ∧ w'.cell? ⟨gi0, 1, none⟩ = some (.int .i64 t126) ∧ w'.cell? ⟨gi0, 2, none⟩ = some (.int .i64 t127) ∧ w'.cell? ⟨gi0, 3, none⟩ = some (.int .i64 t128) ∧ w'.cell? ⟨gi0, 4, none⟩ = some (.int .i64 t129) ∧ w'.cell? ⟨gi0, 5, none⟩ = some (.slice Ao53 y133.length co53) ∧ w'.cell? ⟨gb118, 0, none⟩ = some (.int .i64 a1_0) ∧ w'.cell? ⟨gb118, 1, none⟩ = some (.string a1_1) ∧ w'.cell? ⟨gb118, 2, none⟩ = some (.int .i64 a1_2) ∧ w'.cell? ⟨gb118, 3, none⟩ = some (.int .i64 a1_3) ∧ w'.cell? ⟨gb118, 4, none⟩ = some (.int .i64 a1_4)) (ds := [9]) #[false, false, false, false, false, false, false, false, false, false] zG83 rfl rfl ⟨(blk_cell BK0.out 0).trans rfl, (blk_cell BK0.out 1).trans rfl, (blk_cell BK0.out 2).trans rfl, (blk_cell BK0.out 3).trans rfl, (blk_cell BK0.out 4).trans rfl, (blk_cell BK0.out 5).trans rfl, (blk_cell BK118.out 0).trans rfl, (blk_cell BK118.out 1).trans rfl, (blk_cell BK118.out 2).trans rfl, (blk_cell BK118.out 3).trans rfl, (blk_cell BK118.out 4).trans rfl⟩ (fun hHeld => ?_); refine with_tabW impl_Stock_receive.tab10 impl_Stock_receive.bits10 (fun HT_ HW_ => ?_)
   generalize w55.drew = w56 at HO135 BK0 BK118 BK119 HK HB hHeld ⊢
   refine zP 0 68 #[true, false, false, false, false, false, false, false, false, false] HT_ ?_
   refine zP 1 69 #[true, true, false, false, false, false, false, false, false, false] HT_ ?_
   refine zP 2 70 #[true, true, true, false, false, false, false, false, false, false] HT_ ?_
   refine zP 4 72 #[true, true, true, false, true, false, false, false, false, false] HT_ ?_
   refine zQ 3 71 #[true, true, true, true, true, false, false, false, false, false] HT_ HW_ hHeld ?_
   refine zQ 5 73 #[true, true, true, true, true, true, false, false, false, false] HT_ HW_ hHeld ?_
   refine zP 6 74 #[true, true, true, true, true, true, true, false, false, false] HT_ ?_
   refine zP 7 75 #[true, true, true, true, true, true, true, true, false, false] HT_ ?_
   refine zP 8 76 #[true, true, true, true, true, true, true, true, true, false] HT_ ?_
   refine last_ (i := 9) (N := none) #[true, true, true, true, true, true, true, true, true, true] rfl rfl (one_of HT_.out zG83) zG84 (fun K hK => ?_)
   have hs57 : w56.cell? ⟨gi0, 1, none⟩ = some (.int .i64 t126) := (blk_cell BK0.out 1).trans rfl
   have hfs57 := zc BK0.out 1
   have hns57_1 := NB118_0.out
   have hns57_2 := NB119_0.out
   have hms57_1 := NB0_118.out
   have hms57_2 := NB0_119.out
   refine skip_ (w1 := ?_) (by rfl) rfl ?_ ?_
   rotate_left
   ·go_simp
    rfl
   refine hK.out _ _ ?_
   clear hK K
   refine done_ (done_of HT_.out zG83) ?_
   obtain ⟨hcz58_0, hcz58_1, hcz58_2, hcz58_3, hcz58_4, hfz58_0, hfz58_1, hfz58_2, hfz58_3, hfz58_4⟩ := zB5 BK118.out
   obtain ⟨hcz59_0, hcz59_1, hfz59_0, hfz59_1⟩ := zB2 BK119.out
   try go_wp2
   refine bodyPost_ret (results_cell_row rfl _ _ gb119 36 (zo2 0 a1_3) (0, 0) _ rfl (by (with_reducible repeat (first | refine zf ?_ _ | refine zg ?_ | refine ze ?_ _)); refine zu (cs := (zo2 0 0)) ?_ 1 _ rfl; (with_reducible repeat (first | refine zf ?_ _ | refine zg ?_ | refine ze ?_ _)); refine zu (cs := (zo2 0 0)) ?_ 0 _ rfl; (with_reducible repeat (first | refine zf ?_ _ | refine zg ?_ | refine ze ?_ _)); refine zt ?_ NB119_0.out _; (with_reducible repeat (first | refine zf ?_ _ | refine zg ?_ | refine ze ?_ _)); exact BK119.out) Try.underlying36 rfl zG83) rfl ?_
   exact ⟨_, zH68, by (with_reducible repeat (first | apply zk | apply zl | apply zn)); exact zs (zm (p := ⟨gb119, 1, none⟩) (zm (p := ⟨gb119, 0, none⟩) (zm (p := ⟨gi0, 1, none⟩) (zw (zw HO135.out BK0.out zG84) BK119.out zG84) (fun _ hk => hk.1.2) (.int .i64 (wrap64 (t126 + a1_3)))) (fun _ hk => hk.2) (.int .i64 0)) (fun _ hk => hk.2) (.int .i64 a1_3)) (fun _ hk => hk.1.1), (by (with_reducible repeat (first | refine zf ?_ _ | refine zg ?_ | refine ze ?_ _)); refine zt ?_ NB0_119.out _; (with_reducible repeat (first | refine zf ?_ _ | refine zg ?_ | refine ze ?_ _)); refine zt ?_ NB0_119.out _; (with_reducible repeat (first | refine zf ?_ _ | refine zg ?_ | refine ze ?_ _)); refine zu (cs := (zs6 t125 t126 t127 t128 t129 (.slice Ao53 y133.length co53))) ?_ 1 _ rfl; (with_reducible repeat (first | refine zf ?_ _ | refine zg ?_ | refine ze ?_ _)); exact BK0.out), zH16, zH5⟩
end Go.Proofs.Ytnkceaibkfbeaaa.E
