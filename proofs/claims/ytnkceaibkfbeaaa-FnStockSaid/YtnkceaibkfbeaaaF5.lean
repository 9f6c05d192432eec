-- squeezed
-- made by pp.py (wip/tools) out of the translation; Lean checks it
import Derived.Test.YtnkceaibkfbeaaaF0
import Derived.Test.YtnkceaibkfbeaaaF3
import Derived.Test.YtnkceaibkfbeaaaF4
namespace Go.Proofs.Ytnkceaibkfbeaaa.F
open Go.RowKit Go.Proofs.YtnkceaibkfbeaaaW.PrintWords Go.Proofs.YtnkceaibkfbeaaaW.PrintLast Go.Proofs.YtnkceaibkfbeaaaW.PrintMore
attribute [local go_sem] max2_int min2_int max_two min_two max_three min_three max_four min_four   -- for this text's walks alone
set_option linter.unusedVariables false
set_option linter.unusedSimpArgs false

abbrev b5A0 := zM 21 0
abbrev b5A1 := zM 21 1
abbrev b5A2 := zM 21 3
abbrev b5A3 := zM 21 7
abbrev b5A4 := zM 21 15
abbrev b5A5 := zM 21 31
abbrev b5A6 := zM 21 63
abbrev b5A7 := zM 21 127
abbrev b5A8 := zM 21 255
abbrev b5A9 := zM 21 511
abbrev b5A10 := zM 21 1023
abbrev b5A11 := zM 21 2047
abbrev b5A12 := zM 21 4095
abbrev b5A13 := zM 21 65535
abbrev b5A14 := zM 21 131071
abbrev b5A15 := zM 21 262143
abbrev b5A16 := zM 21 524287
abbrev b5A17 := zM 21 1048575
abbrev b5A18 := zM 21 2097151
abbrev b5A19 := zM 21 8191
abbrev b5A20 := zM 21 16383
abbrev b5A21 := zM 21 32767
/-! ### impl_Stock_receive: function 37 -/
def impl_Stock_receive.j0 : Nat → Bool → Int → Int → Int → Int → Int → List (S38) → Int → ByteArray → Int → Int → Int → Option (Int × Int × Int × Int × Int × Int × Int × (List (S38)))
 | 0, _, _, _, _, _, _, _, _, _, _, _, _ => none
 | k + 1, x11, x1000, x1001, x1002, x1003, x1004, x1005, x232000, x232001, x232002, x232003, x232004 => if x11 = true then (some (5, 0, x1000, x1001, x1002, x1003, x1004, x1005)) else ((impl_Stock_lotAt.f k x1000 x1001 x1002 x1003 x1004 x1005 x232001 x232002).bind fun bt237 => (if bt237.1 ≥ 0 then (some (7, 0, bt237.2.1, bt237.2.2.1, bt237.2.2.2.1, bt237.2.2.2.2.1, bt237.2.2.2.2.2.1, bt237.2.2.2.2.2.2)) else (if (bt237.2.2.2.2.2.2.length : Int) = 60 then (some (14, 0, bt237.2.1, bt237.2.2.1, bt237.2.2.2.1, bt237.2.2.2.2.1, bt237.2.2.2.2.2.1, bt237.2.2.2.2.2.2)) else (if bt237.2.2.2.2.2.2.length < 2932031007402 then (some (0, x232003, bt237.2.1, wrap64 (bt237.2.2.1 + x232003), bt237.2.2.2.1, bt237.2.2.2.2.1, bt237.2.2.2.2.2.1, (bt237.2.2.2.2.2.2 ++ [(⟨x232001, x232002, x232003, x232004, false⟩ : S38)]))) else (none)))))
def impl_Stock_receive.f (k : Nat) (a0_0 : Int) (a0_1 : Int) (a0_2 : Int) (a0_3 : Int) (a0_4 : Int) (l0_5 : List (S38)) (a1_0 : Int) (a1_1 : ByteArray) (a1_2 : Int) (a1_3 : Int) (a1_4 : Int) : Option (Int × Int × Int × Int × Int × Int × Int × (List (S38))) := (impl_NameOK.f k a1_1).bind fun t233 => (if t233 = true then ((impl_within.f a1_2 1 1000000).bind fun t234 => (if t234 = true then ((impl_within.f a1_3 1 100000).bind fun t235 => (if t235 = true then ((impl_within.f a1_4 a0_0 100000).bind fun t236 => (impl_Stock_receive.j0 k (!t236) a0_0 a0_1 a0_2 a0_3 a0_4 l0_5 a1_0 a1_1 a1_2 a1_3 a1_4)) else (impl_Stock_receive.j0 k true a0_0 a0_1 a0_2 a0_3 a0_4 l0_5 a1_0 a1_1 a1_2 a1_3 a1_4))) else (impl_Stock_receive.j0 k true a0_0 a0_1 a0_2 a0_3 a0_4 l0_5 a1_0 a1_1 a1_2 a1_3 a1_4))) else (some (6, 0, a0_0, a0_1, a0_2, a0_3, a0_4, l0_5)))
theorem impl_Stock_receive.mono_l : ∀ k, (∀ y0 y1 y2 y3 y4 y5 y6 y7 y8 y9 y10 y11, LeO (impl_Stock_receive.j0 k y0 y1 y2 y3 y4 y5 y6 y7 y8 y9 y10 y11) (impl_Stock_receive.j0 (k + 1) y0 y1 y2 y3 y4 y5 y6 y7 y8 y9 y10 y11))
 | 0 => fun _ _ _ _ _ _ _ _ _ _ _ _ r h => by simp [impl_Stock_receive.j0] at h
 | k + 1 => by
  have ih0 := impl_Stock_receive.mono_l k
  ·intro y0 y1 y2 y3 y4 y5 y6 y7 y8 y9 y10 y11
   unfold impl_Stock_receive.j0
   repeat' first
   | (with_reducible exact ih0 _ _ _ _ _ _ _ _ _ _ _ _)
   | (with_reducible exact impl_NameOK.mono _ _)
   | (with_reducible exact impl_Stock_lotAt.mono _ _ _ _ _ _ _ _ _)
   | (with_reducible exact LeO.refl _)
   | (with_reducible exact LeO.none _)
   | (with_reducible refine LeO.ite ?_ ?_)
   | (with_reducible refine LeO.bind ?_ (fun _ => ?_))
   | exact ih0 _ _ _ _ _ _ _ _ _ _ _ _
   | exact impl_NameOK.mono _ _
   | exact impl_Stock_lotAt.mono _ _ _ _ _ _ _ _ _
   | exact LeO.none _
   | refine LeO.ite ?_ ?_
   | refine LeO.bind ?_ (fun _ => ?_)
theorem impl_Stock_receive.mono : ∀ a0 a1 a2 a3 a4 a5 a6 a7 a8 a9 a10 k, LeO (impl_Stock_receive.f k a0 a1 a2 a3 a4 a5 a6 a7 a8 a9 a10) (impl_Stock_receive.f (k + 1) a0 a1 a2 a3 a4 a5 a6 a7 a8 a9 a10) := by
 intro a0 a1 a2 a3 a4 a5 a6 a7 a8 a9 a10 k
 have ih0 := impl_Stock_receive.mono_l k
 unfold impl_Stock_receive.f
 repeat' first
   | (with_reducible exact ih0 _ _ _ _ _ _ _ _ _ _ _ _)
   | (with_reducible exact impl_NameOK.mono _ _)
   | (with_reducible exact impl_Stock_lotAt.mono _ _ _ _ _ _ _ _ _)
   | (with_reducible exact LeO.refl _)
   | (with_reducible exact LeO.none _)
   | (with_reducible refine LeO.ite ?_ ?_)
   | (with_reducible refine LeO.bind ?_ (fun _ => ?_))
   | exact ih0 _ _ _ _ _ _ _ _ _ _ _ _
   | exact impl_NameOK.mono _ _
   | exact impl_Stock_lotAt.mono _ _ _ _ _ _ _ _ _
   | exact LeO.none _
   | refine LeO.ite ?_ ?_
   | refine LeO.bind ?_ (fun _ => ?_)
def impl_Stock_receive.T3 : Bool × List (List Nat × List Nat) := (true, [([], []), ([0], [0]), ([1], [1]), ([2], [2]), ([3, 2], [3]), ([4], [4]), ([5, 4], [4, 5]), ([6, 4, 4], [4, 6]), ([7, 4], [4, 7]), ([4, 8], [4, 8]), ([9, 7], [9]), ([10], [10]), ([11, 10], [10, 11]), ([10], [10]), ([13, 10], [10, 13]), ([14, 10], [10, 14]), ([15, 10], [10, 15]), ([12, 16, 10, 10], [10, 12, 16]), ([17, 10], [10, 17]), ([10, 18], [10, 18]), ([19, 17], [19])])
def impl_Stock_receive.B3 : List Nat := [0, 1, 3, 7, 15, 31, 63, 127, 255, 511, 1023, 2047, 4095, 2047, 10239, 26623, 59391, 131071, 262143, 524287, 1048575]
theorem impl_Stock_receive.tab3 : rtab .any (opsOf Try.f37 3) = impl_Stock_receive.T3 := by kernel_rfl
theorem impl_Stock_receive.bits3 : waitsOk impl_Stock_receive.T3.2 impl_Stock_receive.B3 = true := by kernel_rfl
def impl_Stock_receive.T9 : Bool × List (List Nat × List Nat) := (true, [([], []), ([], []), ([1], [1]), ([2], [2]), ([3], [3]), ([], []), ([5], [5]), ([], []), ([7], [7]), ([], []), ([9], [9]), ([], []), ([11], [11]), ([6, 8, 10, 12], [6, 8, 10, 12]), ([13], [13]), ([4, 14], [4, 14]), ([0, 0, 1, 2, 3, 4, 5, 6, 7, 8, 9, 10, 11, 12, 13, 14, 15], [0]), ([16, 0, 1, 2, 3, 4, 5, 6, 7, 8, 9, 10, 11, 12, 13, 14, 15], [16]), ([17, 15, 15, 0, 1, 2, 3, 4, 5, 6, 7, 8, 9, 10, 11, 12, 13, 14, 15], [15, 17])])
def impl_Stock_receive.B9 : List Nat := [0, 0, 2, 6, 14, 0, 32, 0, 128, 0, 512, 0, 2048, 8160, 16352, 32766, 65535, 131071, 262143]
theorem impl_Stock_receive.tab9 : rtab .any (opsOf Try.f37 9) = impl_Stock_receive.T9 := by kernel_rfl
theorem impl_Stock_receive.bits9 : waitsOk impl_Stock_receive.T9.2 impl_Stock_receive.B9 = true := by kernel_rfl
def impl_Stock_receive.T10 : Bool × List (List Nat × List Nat) := (true, [([], []), ([0], [0]), ([1], [1]), ([2], [2]), ([], []), ([4], [4]), ([3, 5], [3, 5]), ([0, 0, 1, 2, 3, 4, 5, 6], [0]), ([7, 0, 1, 2, 3, 4, 5, 6], [7]), ([8, 6, 0, 1, 2, 3, 4, 5, 6], [6, 8])])
def impl_Stock_receive.B10 : List Nat := [0, 1, 3, 7, 0, 16, 63, 127, 255, 511]
theorem impl_Stock_receive.tab10 : rtab .any (opsOf Try.f37 10) = impl_Stock_receive.T10 := by kernel_rfl
theorem impl_Stock_receive.bits10 : waitsOk impl_Stock_receive.T10.2 impl_Stock_receive.B10 = true := by kernel_rfl
set_option maxHeartbeats 64000000 in
set_option maxRecDepth 100000 in
theorem impl_Stock_receive.calls (k : Nat) (gi0 : Nat) (a0_0 : Int) (a0_1 : Int) (a0_2 : Int) (a0_3 : Int) (a0_4 : Int) (P0_5_ : Nat → Prop) (u9000_ : Value) (l0_5 : List (S38)) (a1_0 : Int) (a1_1 : ByteArray) (a1_2 : Int) (a1_3 : Int) (a1_4 : Int) (r1 : Int) (r2 : Int) (r3 : Int) (r4 : Int) (r5 : Int) (r6 : Int) (r7 : Int) (r8 : List (S38)) (w0 w : World) (hB : Below w0.heap.size w0 w) (hbk0 : w.heap[gi0]? = some (.cells (zs6 a0_0 a0_1 a0_2 a0_3 a0_4 u9000_) 29 (0, 0))) (hge0 : w0.heap.size ≤ gi0) (ho0_5 : Kd.R k38 38 w w0.heap.size P0_5_ u9000_ l0_5) (h : impl_Stock_receive.f k a0_0 a0_1 a0_2 a0_3 a0_4 l0_5 a1_0 a1_1 a1_2 a1_3 a1_4 = some (r1, r2, r3, r4, r5, r6, r7, r8)) :
  Calls Try.prog 37 #[.pointer (some ⟨gi0, 0, none⟩), .agg (za5 a1_0 a1_1 a1_2 a1_3 a1_4)] w fun e w' => ∃ v7_ : Value, e = .returned (.agg (zo2 r1 r2)) ∧ Kd.R k38 38 w' w0.heap.size (fun k_ => (P0_5_ k_ ∨ w.heap.size ≤ k_)) v7_ r8 ∧ w'.heap[gi0]? = some (.cells (zs6 r3 r4 r5 r6 r7 v7_) 29 (0, 0)) ∧ Below w0.heap.size w0 w' ∧ Kept w w' (fun k_ => (P0_5_ k_) ∨ k_ = gi0) := by
 have hu34 := Try.underlying34
 have hu36 := Try.underlying36
 have hu38 := Try.underlying38
 obtain ⟨HO0_5, BK0, GE0, HK, HW0, HB⟩ := zD6 (show Kd.R k38 38 w w0.heap.size (fun k_ => (P0_5_ k_ ∨ w.heap.size ≤ k_)) u9000_ l0_5 from zn ho0_5 (fun k_ hk => (.inl hk))) hbk0 hge0 (Kept.refl w (fun k_ => (P0_5_ k_) ∨ k_ = gi0)) hB.size hB
 clear hbk0 hge0 hB
 have H : ((impl_NameOK.f k a1_1).bind fun t233 => (if t233 = true then ((impl_within.f a1_2 1 1000000).bind fun t234 => (if t234 = true then ((impl_within.f a1_3 1 100000).bind fun t235 => (if t235 = true then ((impl_within.f a1_4 a0_0 100000).bind fun t236 => (impl_Stock_receive.j0 k (!t236) a0_0 a0_1 a0_2 a0_3 a0_4 l0_5 a1_0 a1_1 a1_2 a1_3 a1_4)) else (impl_Stock_receive.j0 k true a0_0 a0_1 a0_2 a0_3 a0_4 l0_5 a1_0 a1_1 a1_2 a1_3 a1_4))) else (impl_Stock_receive.j0 k true a0_0 a0_1 a0_2 a0_3 a0_4 l0_5 a1_0 a1_1 a1_2 a1_3 a1_4))) else (some (6, 0, a0_0, a0_1, a0_2, a0_3, a0_4, l0_5)))) = some (r1, r2, r3, r4, r5, r6, r7, r8) := h
 clear h
 replace H := Option.bind_eq_some_iff.mp H
 obtain ⟨t233, A30, H⟩ := H
 replace H : (if t233 = true then ((impl_within.f a1_2 1 1000000).bind fun t234 => (if t234 = true then ((impl_within.f a1_3 1 100000).bind fun t235 => (if t235 = true then ((impl_within.f a1_4 a0_0 100000).bind fun t236 => (impl_Stock_receive.j0 k (!t236) a0_0 a0_1 a0_2 a0_3 a0_4 l0_5 a1_0 a1_1 a1_2 a1_3 a1_4)) else (impl_Stock_receive.j0 k true a0_0 a0_1 a0_2 a0_3 a0_4 l0_5 a1_0 a1_1 a1_2 a1_3 a1_4))) else (impl_Stock_receive.j0 k true a0_0 a0_1 a0_2 a0_3 a0_4 l0_5 a1_0 a1_1 a1_2 a1_3 a1_4))) else (some (6, 0, a0_0, a0_1, a0_2, a0_3, a0_4, l0_5))) = some (r1, r2, r3, r4, r5, r6, r7, r8) := H
 have A3 := za A30
 clear A30
 by_cases c4 : t233 = true
 rotate_left
 ·replace c4 := Bool.eq_false_iff.mpr c4
  subst c4
  have H1 : (some (6, 0, a0_0, a0_1, a0_2, a0_3, a0_4, l0_5)) = some (r1, r2, r3, r4, r5, r6, r7, r8) := by rw [if_neg (show ¬ (false = true) by decide)] at H; exact H
  clear H
  have H := H1
  clear H1
  simp only [Option.some.injEq, Prod.mk.injEq] at H
  obtain ⟨rfl, rfl, rfl, rfl, rfl, rfl, rfl, rfl⟩ := H
  go_enter Try.func37, Try.ntmps37
  go_wp2_with (first | ((with_reducible refine gate_dst (N := 3) rfl ?_); refine box_event ?hg (N := 3) ?hd (cs := (za5 a1_0 a1_1 a1_2 a1_3 a1_4)) (t := 34) ?hr ?_; (case hd => rfl); (case hg => rfl); (case hr => exact zH81); intro gb231 hg w60 hbox hb; have n_ := zA_ (za (zt zK151 hb)) (zA_ (za (zq (g := gi0) (o := .cells (zs6 a0_0 a0_1 a0_2 a0_3 a0_4 u9000_) 29 (0, 0)) zG63 hb)) (zA_ (za (Kept.below (S := (fun k_ => (P0_5_ k_) ∨ k_ = gi0)) zK118 hb)) (zA_ (za (zu zK132 hb)) (zA_ (za (hbox)) (zA_ (zN1 w.heap.size hg zK106) (zA_ (zN1 w0.heap.size hg (zv zK132)) (zN2 hg (zx (g := gi0) (o := .cells (zs6 a0_0 a0_1 a0_2 a0_3 a0_4 u9000_) 29 (0, 0)) zG63)))))))); clear HO0_5 BK0 HK HB; obtain ⟨HO0_5, BK0, HK, HB, BK231, GW231, GE231, NB0_231, NB231_0⟩ := n_; clear hb hbox hg) | ((with_reducible refine gate_dst (N := 4) rfl ?_); refine box_event ?hg (N := 4) ?hd (cs := (zo2 0 0)) (t := 36) ?hr ?_; (case hd => rfl); (case hg => rfl); (case hr => exact zH81); intro gb232 hg w61 hbox hb; have n_ := zA_ (za (zt zK151 hb)) (zA_ (za (zq (g := gi0) (o := .cells (zs6 a0_0 a0_1 a0_2 a0_3 a0_4 u9000_) 29 (0, 0)) zG63 hb)) (zA_ (za (zq (g := gb231) (o := .cells (za5 a1_0 a1_1 a1_2 a1_3 a1_4) 34 (0, 0)) zK138 hb)) (zA_ (za (Kept.below (S := (fun k_ => (P0_5_ k_) ∨ k_ = gi0)) zK113 hb)) (zA_ (za (zu zK124 hb)) (zA_ (za (hbox)) (zA_ (zN1 w.heap.size hg zK104) (zA_ (zN1 w0.heap.size hg (zv zK124)) (zN3 hg (zx (g := gi0) (o := .cells (zs6 a0_0 a0_1 a0_2 a0_3 a0_4 u9000_) 29 (0, 0)) zG63) (zN2 hg (zx (g := gb231) (o := .cells (za5 a1_0 a1_1 a1_2 a1_3 a1_4) 34 (0, 0)) zK138)))))))))); clear HO0_5 BK0 BK231 HK HB; obtain ⟨HO0_5, BK0, BK231, HK, HB, BK232, GW232, GE232, NB0_232, NB232_0, NB231_232, NB232_231⟩ := n_; clear hb hbox hg; have hnb62 := NB231_0.out; have hnc62 := NB0_231.out; have hnb63 := NB231_232.out; have hnc63 := NB232_231.out; obtain ⟨hcz64_0, hcz64_1, hcz64_2, hcz64_3, hcz64_4, hfz64_0, hfz64_1, hfz64_2, hfz64_3, hfz64_4⟩ := zB5 BK231.out) | ((with_reducible refine gate_callee (f := 49) rfl ?_); refine goesL_ (some 8) rfl rfl Try.func49 zG69 rfl #[.string a1_1] rfl zG56 ?_; (with_reducible refine (impl_NameOK.calls k a1_1 false _ A3.out).mono ?_); rintro e w' ⟨rfl, ⟨nd, rfl⟩⟩; refine ⟨_, rfl, ?_⟩; (try (rw [drewN_self w61]; generalize hq_ : World.drewN w61 _ = w61; have n0_ : Aside0 (Kd.R k38 38 w61 w0.heap.size (fun k_ => (P0_5_ k_ ∨ w.heap.size ≤ k_)) u9000_ l0_5) := ⟨by rw [← hq_]; exact zK151⟩; have n1_ : Aside0 (w61.heap[gi0]? = some (.cells (zs6 a0_0 a0_1 a0_2 a0_3 a0_4 u9000_) 29 (0, 0))) := ⟨by rw [← hq_]; exact zG63⟩; have n2_ : Aside0 (w61.heap[gb231]? = some (.cells (za5 a1_0 a1_1 a1_2 a1_3 a1_4) 34 (0, 0))) := ⟨by rw [← hq_]; exact zK138⟩; have n3_ : Aside0 (w61.heap[gb232]? = some (.cells (zo2 0 0) 36 (0, 0))) := ⟨by rw [← hq_]; exact zK139⟩; have n4_ : Aside0 (Kept w w61 (fun k_ => (P0_5_ k_) ∨ k_ = gi0)) := ⟨by rw [← hq_]; exact zK107⟩; have n5_ : Aside0 (Below w0.heap.size w0 w61) := ⟨by rw [← hq_]; exact zK117⟩; clear HO0_5 BK0 BK231 BK232 HK HB hq_; have HO0_5 := n0_; have BK0 := n1_; have BK231 := n2_; have BK232 := n3_; have HK := n4_; have HB := n5_; clear n0_ n1_ n2_ n3_ n4_ n5_)); (try have hcu65_0 : w61.cell? ⟨gi0, 0, none⟩ = some (.int .i64 a0_0) := (blk_cell BK0.out 0).trans rfl); (try have hcu65_1 : w61.cell? ⟨gi0, 1, none⟩ = some (.int .i64 a0_1) := (blk_cell BK0.out 1).trans rfl); (try have hcu65_2 : w61.cell? ⟨gi0, 2, none⟩ = some (.int .i64 a0_2) := (blk_cell BK0.out 2).trans rfl); (try have hcu65_3 : w61.cell? ⟨gi0, 3, none⟩ = some (.int .i64 a0_3) := (blk_cell BK0.out 3).trans rfl); (try have hcu65_4 : w61.cell? ⟨gi0, 4, none⟩ = some (.int .i64 a0_4) := (blk_cell BK0.out 4).trans rfl); (try have hcu65_5 : w61.cell? ⟨gi0, 5, none⟩ = some (u9000_) := (blk_cell BK0.out 5).trans rfl); (try have hfcu65_0 := zd BK0.out 0); (try have hfcu65_1 := zd BK0.out 1); (try have hfcu65_2 := zd BK0.out 2); (try have hfcu65_3 := zd BK0.out 3); (try have hfcu65_4 := zd BK0.out 4); (try have hfcu65_5 := zd BK0.out 5); (try have hcu66_0 : w61.cell? ⟨gb231, 0, none⟩ = some (.int .i64 a1_0) := (blk_cell BK231.out 0).trans rfl); (try have hcu66_1 : w61.cell? ⟨gb231, 1, none⟩ = some (.string a1_1) := (blk_cell BK231.out 1).trans rfl); (try have hcu66_2 : w61.cell? ⟨gb231, 2, none⟩ = some (.int .i64 a1_2) := (blk_cell BK231.out 2).trans rfl); (try have hcu66_3 : w61.cell? ⟨gb231, 3, none⟩ = some (.int .i64 a1_3) := (blk_cell BK231.out 3).trans rfl); (try have hcu66_4 : w61.cell? ⟨gb231, 4, none⟩ = some (.int .i64 a1_4) := (blk_cell BK231.out 4).trans rfl); (try have hfcu66_0 := zd BK231.out 0); (try have hfcu66_1 := zd BK231.out 1); (try have hfcu66_2 := zd BK231.out 2); (try have hfcu66_3 := zd BK231.out 3); (try have hfcu66_4 := zd BK231.out 4); (try have hcu67_0 : w61.cell? ⟨gb232, 0, none⟩ = some (.int .i64 0) := (blk_cell BK232.out 0).trans rfl); (try have hcu67_1 : w61.cell? ⟨gb232, 1, none⟩ = some (.int .i64 0) := (blk_cell BK232.out 1).trans rfl); (try have hfcu67_0 := zd BK232.out 0); (try have hfcu67_1 := zd BK232.out 1); have hnb68 := NB232_0.out; have hnc68 := NB0_232.out; obtain ⟨hcz69_0, hcz69_1, hfz69_0, hfz69_1⟩ := zB2 BK232.out))
  refine bodyPost_ret (results_cell_row rfl _ _ gb232 36 (zo2 6 0) (0, 0) _ rfl (by (with_reducible repeat (first | refine zc ?_ _ | refine ze ?_ | refine zb ?_ _)); refine zr (cs := (zo2 6 0)) ?_ 1 _ rfl; (with_reducible repeat (first | refine zc ?_ _ | refine ze ?_ | refine zb ?_ _)); refine zr (cs := (zo2 0 0)) ?_ 0 _ rfl; (with_reducible repeat (first | refine zc ?_ _ | refine ze ?_ | refine zb ?_ _)); exact BK232.out) Try.underlying36 rfl zG69) rfl ?_
  exact ⟨_, zH70, by (with_reducible repeat (first | apply zj | apply zk | apply zl)); exact zn (zm (p := ⟨gb232, 1, none⟩) (zm (p := ⟨gb232, 0, none⟩) (zz HO0_5.out BK232.out zG70) (fun _ hk => hk.2) (.int .i64 6)) (fun _ hk => hk.2) (.int .i64 0)) (fun _ hk => hk.1), zK103, zH27, zH19⟩

 subst c4
 have H1 : ((impl_within.f a1_2 1 1000000).bind fun t234 => (if t234 = true then ((impl_within.f a1_3 1 100000).bind fun t235 => (if t235 = true then ((impl_within.f a1_4 a0_0 100000).bind fun t236 => (impl_Stock_receive.j0 k (!t236) a0_0 a0_1 a0_2 a0_3 a0_4 l0_5 a1_0 a1_1 a1_2 a1_3 a1_4)) else (impl_Stock_receive.j0 k true a0_0 a0_1 a0_2 a0_3 a0_4 l0_5 a1_0 a1_1 a1_2 a1_3 a1_4))) else (impl_Stock_receive.j0 k true a0_0 a0_1 a0_2 a0_3 a0_4 l0_5 a1_0 a1_1 a1_2 a1_3 a1_4))) = some (r1, r2, r3, r4, r5, r6, r7, r8) := by rw [if_pos rfl] at H; exact H
 clear H
 have H := H1
 clear H1
 have HC5 := za H
 clear H
 go_enter Try.func37, Try.ntmps37
 go_upto_region 3 with (first | ((with_reducible refine gate_dst (N := 3) rfl ?_); refine box_event ?hg (N := 3) ?hd (cs := (za5 a1_0 a1_1 a1_2 a1_3 a1_4)) (t := 34) ?hr ?_; (case hd => rfl); (case hg => rfl); (case hr => exact zH81); intro gb231 hg w6 hbox hb; have n_ := zA_ (za (zt zK151 hb)) (zA_ (za (zq (g := gi0) (o := .cells (zs6 a0_0 a0_1 a0_2 a0_3 a0_4 u9000_) 29 (0, 0)) zG63 hb)) (zA_ (za (Kept.below (S := (fun k_ => (P0_5_ k_) ∨ k_ = gi0)) zK118 hb)) (zA_ (za (zu zK132 hb)) (zA_ (za (hbox)) (zA_ (zN1 w.heap.size hg zK106) (zA_ (zN1 w0.heap.size hg (zv zK132)) (zN2 hg (zx (g := gi0) (o := .cells (zs6 a0_0 a0_1 a0_2 a0_3 a0_4 u9000_) 29 (0, 0)) zG63)))))))); clear HO0_5 BK0 HK HB; obtain ⟨HO0_5, BK0, HK, HB, BK231, GW231, GE231, NB0_231, NB231_0⟩ := n_; clear hb hbox hg) | ((with_reducible refine gate_dst (N := 4) rfl ?_); refine box_event ?hg (N := 4) ?hd (cs := (zo2 0 0)) (t := 36) ?hr ?_; (case hd => rfl); (case hg => rfl); (case hr => exact zH81); intro gb232 hg w7 hbox hb; have n_ := zA_ (za (zt zK151 hb)) (zA_ (za (zq (g := gi0) (o := .cells (zs6 a0_0 a0_1 a0_2 a0_3 a0_4 u9000_) 29 (0, 0)) zG63 hb)) (zA_ (za (zq (g := gb231) (o := .cells (za5 a1_0 a1_1 a1_2 a1_3 a1_4) 34 (0, 0)) zK138 hb)) (zA_ (za (Kept.below (S := (fun k_ => (P0_5_ k_) ∨ k_ = gi0)) zK113 hb)) (zA_ (za (zu zK124 hb)) (zA_ (za (hbox)) (zA_ (zN1 w.heap.size hg zK104) (zA_ (zN1 w0.heap.size hg (zv zK124)) (zN3 hg (zx (g := gi0) (o := .cells (zs6 a0_0 a0_1 a0_2 a0_3 a0_4 u9000_) 29 (0, 0)) zG63) (zN2 hg (zx (g := gb231) (o := .cells (za5 a1_0 a1_1 a1_2 a1_3 a1_4) 34 (0, 0)) zK138)))))))))); clear HO0_5 BK0 BK231 HK HB; obtain ⟨HO0_5, BK0, BK231, HK, HB, BK232, GW232, GE232, NB0_232, NB232_0, NB231_232, NB232_231⟩ := n_; clear hb hbox hg; have hnb8 := NB231_0.out; have hnc8 := NB0_231.out; have hnb9 := NB231_232.out; have hnc9 := NB232_231.out; obtain ⟨hcz10_0, hcz10_1, hcz10_2, hcz10_3, hcz10_4, hfz10_0, hfz10_1, hfz10_2, hfz10_3, hfz10_4⟩ := zB5 BK231.out) | ((with_reducible refine gate_callee (f := 49) rfl ?_); refine goesL_ (some 8) rfl rfl Try.func49 zG69 rfl #[.string a1_1] rfl zG56 ?_; (with_reducible refine (impl_NameOK.calls k a1_1 true _ A3.out).mono ?_); rintro e w' ⟨rfl, ⟨nd, rfl⟩⟩; refine ⟨_, rfl, ?_⟩))
 (try simp only [Act.put, List.setIfInBounds_toArray, List.set_cons_zero, List.set_cons_succ])
 generalize hq_ : w7.drewN nd = w7
 replace HO0_5 := Aside0.mk (Kd.R_at hq_ HO0_5.out)
 replace BK0 := Aside0.mk (blk_at hq_ BK0.out)
 replace BK231 := Aside0.mk (blk_at hq_ BK231.out)
 replace BK232 := Aside0.mk (blk_at hq_ BK232.out)
 replace HK := Aside0.mk (kept_at hq_ HK.out)
 replace HB := Aside0.mk (below_at hq_ HB.out)
 clear hq_
 go_cut [11] (fun v11 wc => ∃ (kq : Nat) (x11_4 : Bool), v11 = .bool x11_4 ∧ Aside0 (impl_Stock_receive.j0 kq x11_4 a0_0 a0_1 a0_2 a0_3 a0_4 l0_5 a1_0 a1_1 a1_2 a1_3 a1_4 = some (r1, r2, r3, r4, r5, r6, r7, r8)) ∧ Aside0 (kq ≤ k) ∧ Aside0 (Kd.R k38 38 wc w0.heap.size (fun k_ => (P0_5_ k_ ∨ w.heap.size ≤ k_)) u9000_ l0_5) ∧ Aside0 (wc.heap[gi0]? = some (.cells (zs6 a0_0 a0_1 a0_2 a0_3 a0_4 u9000_) 29 (0, 0))) ∧ Aside0 (wc.heap[gb231]? = some (.cells (za5 a1_0 a1_1 a1_2 a1_3 a1_4) 34 (0, 0))) ∧ Aside0 (wc.heap[gb232]? = some (.cells (zo2 0 0) 36 (0, 0))) ∧ Aside0 (Kept w wc (fun k_ => (P0_5_ k_) ∨ k_ = gi0)) ∧ Aside0 (Below w0.heap.size w0 wc))
 case first =>
  have H := HC5.out
  clear HC5
  replace H := Option.bind_eq_some_iff.mp H
  obtain ⟨t234, A110, H⟩ := H
  replace H : (if t234 = true then ((impl_within.f a1_3 1 100000).bind fun t235 => (if t235 = true then ((impl_within.f a1_4 a0_0 100000).bind fun t236 => (impl_Stock_receive.j0 k (!t236) a0_0 a0_1 a0_2 a0_3 a0_4 l0_5 a1_0 a1_1 a1_2 a1_3 a1_4)) else (impl_Stock_receive.j0 k true a0_0 a0_1 a0_2 a0_3 a0_4 l0_5 a1_0 a1_1 a1_2 a1_3 a1_4))) else (impl_Stock_receive.j0 k true a0_0 a0_1 a0_2 a0_3 a0_4 l0_5 a1_0 a1_1 a1_2 a1_3 a1_4)) = some (r1, r2, r3, r4, r5, r6, r7, r8) := H
  have A11 := za A110
  clear A110
  by_cases c12 : t234 = true
  rotate_left
  ·replace c12 := Bool.eq_false_iff.mpr c12
   subst c12
   have H1 : (impl_Stock_receive.j0 k true a0_0 a0_1 a0_2 a0_3 a0_4 l0_5 a1_0 a1_1 a1_2 a1_3 a1_4) = some (r1, r2, r3, r4, r5, r6, r7, r8) := by rw [if_neg (show ¬ (false = true) by decide)] at H; exact H
   clear H
   have H := H1
   clear H1
   have H' := za H
   clear H
   try go_wp2
   obtain ⟨n0_, n1_, n2_, n3_, n4_, n5_⟩ := zD6 (zl HO0_5.out) (ze BK0.out) (ze BK231.out) (ze BK232.out) (Kept.drew HK.out) (zh HB.out)
   clear HO0_5 BK0 BK231 BK232 HK HB
   have HO0_5 := n0_
   have BK0 := n1_
   have BK231 := n2_
   have BK232 := n3_
   have HK := n4_
   have HB := n5_
   clear n0_ n1_ n2_ n3_ n4_ n5_
   refine start_ (n := 21) (S := fun w' => w'.cell? ⟨gb231, 0, none⟩ = some (.int .i64 a1_0) ∧ w'.cell? ⟨gb231, 1, none⟩ = some (.string a1_1) ∧ w'.cell? ⟨gb231, 2, none⟩ = some (.int .i64 a1_2) ∧ w'.cell? ⟨gb231, 3, none⟩ = some (.int .i64 a1_3) ∧ w'.cell? ⟨gb231, 4, none⟩ = some (.int .i64 a1_4)) (ds := []) b5A0 zG69 rfl rfl ⟨(blk_cell BK231.out 0).trans rfl, (blk_cell BK231.out 1).trans rfl, (blk_cell BK231.out 2).trans rfl, (blk_cell BK231.out 3).trans rfl, (blk_cell BK231.out 4).trans rfl⟩ (fun hHeld => ?_); refine with_tabW impl_Stock_receive.tab3 impl_Stock_receive.bits3 (fun HT_ HW_ => ?_)
   generalize w7.drew = w18 at HO0_5 BK0 BK231 BK232 HK HB hHeld ⊢
   refine zP 0 12 b5A1 HT_ ?_
   refine zQ 1 13 b5A2 HT_ HW_ hHeld ?_
   refine one_ (i := 2) (N := some 14) b5A3 rfl rfl (one_of HT_.out zG69) zG70 (fun K hK => ?_)
   refine goes_ Try.func39 zG69 rfl #[.int .i64 a1_2, .int .i64 1, .int .i64 1000000] (by rfl) rfl rfl zG56 ?_
   with_reducible refine (impl_within.calls a1_2 1 1000000 false _ A11.out).mono ?_
   rintro e w' ⟨rfl, ⟨nd, rfl⟩⟩
   refine ⟨_, rfl, ?_⟩
   refine hK.out _ _ ⟨(blk_cell BK231.out 0).trans rfl, (blk_cell BK231.out 1).trans rfl, (blk_cell BK231.out 2).trans rfl, (blk_cell BK231.out 3).trans rfl, (blk_cell BK231.out 4).trans rfl⟩ (fun hHeld => ?_)
   clear hK K
   refine norm_ (a' := ?_) ?_ ?_
   rotate_left
   ·show Act.put _ (some 14) _ = _
    simp only [Act.put, List.setIfInBounds_toArray, List.set_cons_zero, List.set_cons_succ, i64_w, i32_w]
    rfl
   refine zP 3 15 b5A4 HT_ ?_
   refine zP 4 16 b5A5 HT_ ?_
   refine zU 5 17 b5A6 HT_ ?_
   refine zU 6 18 b5A7 HT_ ?_
   refine zU 7 19 b5A8 HT_ ?_
   refine zU 8 20 b5A9 HT_ ?_
   refine zP 9 21 b5A10 HT_ ?_
   refine zP 10 22 b5A11 HT_ ?_
   refine zU 11 23 b5A12 HT_ ?_
   refine zU 12 24 b5A19 HT_ ?_
   refine zU 13 25 b5A20 HT_ ?_
   refine zU 14 26 b5A21 HT_ ?_
   refine zU 15 27 b5A13 HT_ ?_
   refine zU 16 28 b5A14 HT_ ?_
   refine zU 17 29 b5A15 HT_ ?_
   refine zU 18 30 b5A16 HT_ ?_
   refine zP 19 31 b5A17 HT_ ?_
   refine zP 20 11 b5A18 HT_ ?_
   refine done_ (done_of HT_.out zG69) ?_
   try go_wp2
   go_meet
   case rel => exact ⟨_, (true), zG68, H', ⟨zH82⟩, ⟨zH73⟩, ⟨zH69⟩, ⟨zH61⟩, ⟨zH62⟩, ⟨zH19⟩, ⟨zH27⟩⟩
  subst c12
  have H1 : ((impl_within.f a1_3 1 100000).bind fun t235 => (if t235 = true then ((impl_within.f a1_4 a0_0 100000).bind fun t236 => (impl_Stock_receive.j0 k (!t236) a0_0 a0_1 a0_2 a0_3 a0_4 l0_5 a1_0 a1_1 a1_2 a1_3 a1_4)) else (impl_Stock_receive.j0 k true a0_0 a0_1 a0_2 a0_3 a0_4 l0_5 a1_0 a1_1 a1_2 a1_3 a1_4))) = some (r1, r2, r3, r4, r5, r6, r7, r8) := by rw [if_pos rfl] at H; exact H
  clear H
  have H := H1
  clear H1
  replace H := Option.bind_eq_some_iff.mp H
  obtain ⟨t235, A130, H⟩ := H
  replace H : (if t235 = true then ((impl_within.f a1_4 a0_0 100000).bind fun t236 => (impl_Stock_receive.j0 k (!t236) a0_0 a0_1 a0_2 a0_3 a0_4 l0_5 a1_0 a1_1 a1_2 a1_3 a1_4)) else (impl_Stock_receive.j0 k true a0_0 a0_1 a0_2 a0_3 a0_4 l0_5 a1_0 a1_1 a1_2 a1_3 a1_4)) = some (r1, r2, r3, r4, r5, r6, r7, r8) := H
  have A13 := za A130
  clear A130
  by_cases c14 : t235 = true
  rotate_left
  ·replace c14 := Bool.eq_false_iff.mpr c14
   subst c14
   have H1 : (impl_Stock_receive.j0 k true a0_0 a0_1 a0_2 a0_3 a0_4 l0_5 a1_0 a1_1 a1_2 a1_3 a1_4) = some (r1, r2, r3, r4, r5, r6, r7, r8) := by rw [if_neg (show ¬ (false = true) by decide)] at H; exact H
   clear H
   have H := H1
   clear H1
   have H' := za H
   clear H
   try go_wp2
   obtain ⟨n0_, n1_, n2_, n3_, n4_, n5_⟩ := zD6 (zl HO0_5.out) (ze BK0.out) (ze BK231.out) (ze BK232.out) (Kept.drew HK.out) (zh HB.out)
   clear HO0_5 BK0 BK231 BK232 HK HB
   have HO0_5 := n0_
   have BK0 := n1_
   have BK231 := n2_
   have BK232 := n3_
   have HK := n4_
   have HB := n5_
   clear n0_ n1_ n2_ n3_ n4_ n5_
   refine start_ (n := 21) (S := fun w' => w'.cell? ⟨gb231, 0, none⟩ = some (.int .i64 a1_0) ∧ w'.cell? ⟨gb231, 1, none⟩ = some (.string a1_1) ∧ w'.cell? ⟨gb231, 2, none⟩ = some (.int .i64 a1_2) ∧ w'.cell? ⟨gb231, 3, none⟩ = some (.int .i64 a1_3) ∧ w'.cell? ⟨gb231, 4, none⟩ = some (.int .i64 a1_4)) (ds := []) b5A0 zG69 rfl rfl ⟨(blk_cell BK231.out 0).trans rfl, (blk_cell BK231.out 1).trans rfl, (blk_cell BK231.out 2).trans rfl, (blk_cell BK231.out 3).trans rfl, (blk_cell BK231.out 4).trans rfl⟩ (fun hHeld => ?_); refine with_tabW impl_Stock_receive.tab3 impl_Stock_receive.bits3 (fun HT_ HW_ => ?_)
   generalize w7.drew = w17 at HO0_5 BK0 BK231 BK232 HK HB hHeld ⊢
   refine zP 0 12 b5A1 HT_ ?_
   refine zQ 1 13 b5A2 HT_ HW_ hHeld ?_
   refine one_ (i := 2) (N := some 14) b5A3 rfl rfl (one_of HT_.out zG69) zG70 (fun K hK => ?_)
   refine goes_ Try.func39 zG69 rfl #[.int .i64 a1_2, .int .i64 1, .int .i64 1000000] (by rfl) rfl rfl zG56 ?_
   with_reducible refine (impl_within.calls a1_2 1 1000000 true _ A11.out).mono ?_
   rintro e w' ⟨rfl, ⟨nd, rfl⟩⟩
   refine ⟨_, rfl, ?_⟩
   refine hK.out _ _ ⟨(blk_cell BK231.out 0).trans rfl, (blk_cell BK231.out 1).trans rfl, (blk_cell BK231.out 2).trans rfl, (blk_cell BK231.out 3).trans rfl, (blk_cell BK231.out 4).trans rfl⟩ (fun hHeld => ?_)
   clear hK K
   refine norm_ (a' := ?_) ?_ ?_
   rotate_left
   ·show Act.put _ (some 14) _ = _
    simp only [Act.put, List.setIfInBounds_toArray, List.set_cons_zero, List.set_cons_succ, i64_w, i32_w]
    rfl
   refine zP 3 15 b5A4 HT_ ?_
   refine zP 4 16 b5A5 HT_ ?_
   refine zP 5 17 b5A6 HT_ ?_
   refine zQ 6 18 b5A7 HT_ HW_ hHeld ?_
   refine one_ (i := 7) (N := some 19) b5A8 rfl rfl (one_of HT_.out zG69) zG70 (fun K hK => ?_)
   refine goes_ Try.func39 zG69 rfl #[.int .i64 a1_3, .int .i64 1, .int .i64 100000] (by rfl) rfl rfl zG56 ?_
   with_reducible refine (impl_within.calls a1_3 1 100000 false _ A13.out).mono ?_
   rintro e w' ⟨rfl, ⟨nd, rfl⟩⟩
   refine ⟨_, rfl, ?_⟩
   refine hK.out _ _ ⟨(blk_cell BK231.out 0).trans rfl, (blk_cell BK231.out 1).trans rfl, (blk_cell BK231.out 2).trans rfl, (blk_cell BK231.out 3).trans rfl, (blk_cell BK231.out 4).trans rfl⟩ (fun hHeld => ?_)
   clear hK K
   refine norm_ (a' := ?_) ?_ ?_
   rotate_left
   ·show Act.put _ (some 19) _ = _
    simp only [Act.put, List.setIfInBounds_toArray, List.set_cons_zero, List.set_cons_succ, i64_w, i32_w]
    rfl
   refine zP 8 20 b5A9 HT_ ?_
   refine zP 9 21 b5A10 HT_ ?_
   refine zP 10 22 b5A11 HT_ ?_
   refine zU 11 23 b5A12 HT_ ?_
   refine zU 12 24 b5A19 HT_ ?_
   refine zU 13 25 b5A20 HT_ ?_
   refine zU 14 26 b5A21 HT_ ?_
   refine zU 15 27 b5A13 HT_ ?_
   refine zU 16 28 b5A14 HT_ ?_
   refine zU 17 29 b5A15 HT_ ?_
   refine zU 18 30 b5A16 HT_ ?_
   refine zP 19 31 b5A17 HT_ ?_
   refine zP 20 11 b5A18 HT_ ?_
   refine done_ (done_of HT_.out zG69) ?_
   try go_wp2
   go_meet
   case rel => exact ⟨_, (true), zG68, H', ⟨zH82⟩, ⟨zH73⟩, ⟨zH69⟩, ⟨zH61⟩, ⟨zH62⟩, ⟨zH19⟩, ⟨zH27⟩⟩
  subst c14
  have H1 : ((impl_within.f a1_4 a0_0 100000).bind fun t236 => (impl_Stock_receive.j0 k (!t236) a0_0 a0_1 a0_2 a0_3 a0_4 l0_5 a1_0 a1_1 a1_2 a1_3 a1_4)) = some (r1, r2, r3, r4, r5, r6, r7, r8) := by rw [if_pos rfl] at H; exact H
  clear H
  have H := H1
  clear H1
  replace H := Option.bind_eq_some_iff.mp H
  obtain ⟨t236, A150, H⟩ := H
  replace H : (impl_Stock_receive.j0 k (!t236) a0_0 a0_1 a0_2 a0_3 a0_4 l0_5 a1_0 a1_1 a1_2 a1_3 a1_4) = some (r1, r2, r3, r4, r5, r6, r7, r8) := H
  have A15 := za A150
  clear A150
  have H' := za H
  clear H
  try go_wp2
  obtain ⟨n0_, n1_, n2_, n3_, n4_, n5_⟩ := zD6 (zl HO0_5.out) (ze BK0.out) (ze BK231.out) (ze BK232.out) (Kept.drew HK.out) (zh HB.out)
  clear HO0_5 BK0 BK231 BK232 HK HB
  have HO0_5 := n0_
  have BK0 := n1_
  have BK231 := n2_
  have BK232 := n3_
  have HK := n4_
  have HB := n5_
  clear n0_ n1_ n2_ n3_ n4_ n5_
  refine start_ (n := 21) (S := fun w' => w'.cell? ⟨gb231, 0, none⟩ = some (.int .i64 a1_0) ∧ w'.cell? ⟨gb231, 1, none⟩ = some (.string a1_1) ∧ w'.cell? ⟨gb231, 2, none⟩ = some (.int .i64 a1_2) ∧ w'.cell? ⟨gb231, 3, none⟩ = some (.int .i64 a1_3) ∧ w'.cell? ⟨gb231, 4, none⟩ = some (.int .i64 a1_4) ∧ w'.cell? ⟨gi0, 0, none⟩ = some (.int .i64 a0_0) ∧ w'.cell? ⟨gi0, 1, none⟩ = some (.int .i64 a0_1) ∧ w'.cell? ⟨gi0, 2, none⟩ = some (.int .i64 a0_2) ∧ w'.cell? ⟨gi0, 3, none⟩ = some (.int .i64 a0_3) ∧ w'.cell? ⟨gi0, 4, none⟩ = some (.int .i64 a0_4) ∧ w'.cell? ⟨gi0, 5, none⟩ = some (u9000_)) (ds := []) b5A0 zG69 rfl rfl ⟨(blk_cell BK231.out 0).trans rfl, (blk_cell BK231.out 1).trans rfl, (blk_cell BK231.out 2).trans rfl, (blk_cell BK231.out 3).trans rfl, (blk_cell BK231.out 4).trans rfl, (blk_cell BK0.out 0).trans rfl, (blk_cell BK0.out 1).trans rfl, (blk_cell BK0.out 2).trans rfl, (blk_cell BK0.out 3).trans rfl, (blk_cell BK0.out 4).trans rfl, (blk_cell BK0.out 5).trans rfl⟩ (fun hHeld => ?_); refine with_tabW impl_Stock_receive.tab3 impl_Stock_receive.bits3 (fun HT_ HW_ => ?_)
  generalize w7.drew = w16 at HO0_5 BK0 BK231 BK232 HK HB hHeld ⊢
  refine zP 0 12 b5A1 HT_ ?_
  refine zQ 1 13 b5A2 HT_ HW_ hHeld ?_
  refine one_ (i := 2) (N := some 14) b5A3 rfl rfl (one_of HT_.out zG69) zG70 (fun K hK => ?_)
  refine goes_ Try.func39 zG69 rfl #[.int .i64 a1_2, .int .i64 1, .int .i64 1000000] (by rfl) rfl rfl zG56 ?_
  with_reducible refine (impl_within.calls a1_2 1 1000000 true _ A11.out).mono ?_
  rintro e w' ⟨rfl, ⟨nd, rfl⟩⟩
  refine ⟨_, rfl, ?_⟩
  refine hK.out _ _ ⟨(blk_cell BK231.out 0).trans rfl, (blk_cell BK231.out 1).trans rfl, (blk_cell BK231.out 2).trans rfl, (blk_cell BK231.out 3).trans rfl, (blk_cell BK231.out 4).trans rfl, (blk_cell BK0.out 0).trans rfl, (blk_cell BK0.out 1).trans rfl, (blk_cell BK0.out 2).trans rfl, (blk_cell BK0.out 3).trans rfl, (blk_cell BK0.out 4).trans rfl, (blk_cell BK0.out 5).trans rfl⟩ (fun hHeld => ?_)
  clear hK K
  refine norm_ (a' := ?_) ?_ ?_
  rotate_left
  ·show Act.put _ (some 14) _ = _
   simp only [Act.put, List.setIfInBounds_toArray, List.set_cons_zero, List.set_cons_succ, i64_w, i32_w]
   rfl
  refine zP 3 15 b5A4 HT_ ?_
  refine zP 4 16 b5A5 HT_ ?_
  refine zP 5 17 b5A6 HT_ ?_
  refine zQ 6 18 b5A7 HT_ HW_ hHeld ?_
  refine one_ (i := 7) (N := some 19) b5A8 rfl rfl (one_of HT_.out zG69) zG70 (fun K hK => ?_)
  refine goes_ Try.func39 zG69 rfl #[.int .i64 a1_3, .int .i64 1, .int .i64 100000] (by rfl) rfl rfl zG56 ?_
  with_reducible refine (impl_within.calls a1_3 1 100000 true _ A13.out).mono ?_
  rintro e w' ⟨rfl, ⟨nd, rfl⟩⟩
  refine ⟨_, rfl, ?_⟩
  refine hK.out _ _ ⟨(blk_cell BK231.out 0).trans rfl, (blk_cell BK231.out 1).trans rfl, (blk_cell BK231.out 2).trans rfl, (blk_cell BK231.out 3).trans rfl, (blk_cell BK231.out 4).trans rfl, (blk_cell BK0.out 0).trans rfl, (blk_cell BK0.out 1).trans rfl, (blk_cell BK0.out 2).trans rfl, (blk_cell BK0.out 3).trans rfl, (blk_cell BK0.out 4).trans rfl, (blk_cell BK0.out 5).trans rfl⟩ (fun hHeld => ?_)
  clear hK K
  refine norm_ (a' := ?_) ?_ ?_
  rotate_left
  ·show Act.put _ (some 19) _ = _
   simp only [Act.put, List.setIfInBounds_toArray, List.set_cons_zero, List.set_cons_succ, i64_w, i32_w]
   rfl
  refine zP 8 20 b5A9 HT_ ?_
  refine zP 9 21 b5A10 HT_ ?_
  refine zP 10 22 b5A11 HT_ ?_
  refine zP 11 23 b5A12 HT_ ?_
  refine zP 13 25 #[true, true, true, true, true, true, true, true, true, true, true, true, false, true, false, false, false, false, false, false, false] HT_ ?_
  refine zP 14 26 #[true, true, true, true, true, true, true, true, true, true, true, true, false, true, true, false, false, false, false, false, false] HT_ ?_
  refine zP 15 27 #[true, true, true, true, true, true, true, true, true, true, true, true, false, true, true, true, false, false, false, false, false] HT_ ?_
  refine zQ 12 24 b5A13 HT_ HW_ hHeld ?_
  refine zQ 16 28 b5A14 HT_ HW_ hHeld ?_
  refine one_ (i := 17) (N := some 29) b5A15 rfl rfl (one_of HT_.out zG69) zG70 (fun K hK => ?_)
  refine goes_ Try.func39 zG69 rfl #[.int .i64 a1_4, .int .i64 a0_0, .int .i64 100000] (by rfl) rfl rfl zG56 ?_
  with_reducible refine (impl_within.calls a1_4 a0_0 100000 t236 _ A15.out).mono ?_
  rintro e w' ⟨rfl, ⟨nd, rfl⟩⟩
  refine ⟨_, rfl, ?_⟩
  refine hK.out _ _ ⟨(blk_cell BK231.out 0).trans rfl, (blk_cell BK231.out 1).trans rfl, (blk_cell BK231.out 2).trans rfl, (blk_cell BK231.out 3).trans rfl, (blk_cell BK231.out 4).trans rfl, (blk_cell BK0.out 0).trans rfl, (blk_cell BK0.out 1).trans rfl, (blk_cell BK0.out 2).trans rfl, (blk_cell BK0.out 3).trans rfl, (blk_cell BK0.out 4).trans rfl, (blk_cell BK0.out 5).trans rfl⟩ (fun hHeld => ?_)
  clear hK K
  refine norm_ (a' := ?_) ?_ ?_
  rotate_left
  ·show Act.put _ (some 29) _ = _
   simp only [Act.put, List.setIfInBounds_toArray, List.set_cons_zero, List.set_cons_succ, i64_w, i32_w]
   rfl
  refine zP 18 30 b5A16 HT_ ?_
  refine zP 19 31 b5A17 HT_ ?_
  refine zP 20 11 b5A18 HT_ ?_
  refine done_ (done_of HT_.out zG69) ?_
  try go_wp2
  go_meet
  case rel => exact ⟨_, (!t236), zG68, H', ⟨zH82⟩, ⟨zH73⟩, ⟨zH69⟩, ⟨zH61⟩, ⟨zH62⟩, ⟨zH19⟩, ⟨zH27⟩⟩
 case rest =>
  clear HC5
  try clear c4
  try clear c12
  try clear c14
  try clear hcz10_0
  try clear hcz10_1
  try clear hcz10_2
  try clear hcz10_3
  try clear hcz10_4
  try clear hfz10_0
  try clear hfz10_1
  try clear hfz10_2
  try clear hfz10_3
  try clear hfz10_4
  obtain ⟨kq, x11_4, rfl, HA, HJ4, HO_1005, BK0, BK231, BK232, HK, HB⟩ := hcut
  cases kq with
  | zero => exact absurd HA.out (by simp [impl_Stock_receive.j0])
  | succ kj4 =>
   have H := HA.out
   clear HA
   simp only [impl_Stock_receive.j0] at H
   by_cases c19 : x11_4 = true
   ·subst c19
    have H1 : (some (5, 0, a0_0, a0_1, a0_2, a0_3, a0_4, l0_5)) = some (r1, r2, r3, r4, r5, r6, r7, r8) := by rw [if_pos rfl] at H; exact H
    clear H
    have H := H1
    clear H1
    simp only [Option.some.injEq, Prod.mk.injEq] at H
    obtain ⟨rfl, rfl, rfl, rfl, rfl, rfl, rfl, rfl⟩ := H
    have hnb20 := NB232_0.out
    have hnc20 := NB0_232.out
    have hnb21 := NB232_231.out
    have hnc21 := NB231_232.out
    obtain ⟨hcz22_0, hcz22_1, hfz22_0, hfz22_1⟩ := zB2 BK232.out
    go_wp2
    refine bodyPost_ret (results_cell_row rfl _ _ gb232 36 (zo2 5 0) (0, 0) _ rfl (by (with_reducible repeat (first | refine zc ?_ _ | refine ze ?_ | refine zb ?_ _)); refine zr (cs := (zo2 5 0)) ?_ 1 _ rfl; (with_reducible repeat (first | refine zc ?_ _ | refine ze ?_ | refine zb ?_ _)); refine zr (cs := (zo2 0 0)) ?_ 0 _ rfl; (with_reducible repeat (first | refine zc ?_ _ | refine ze ?_ | refine zb ?_ _)); exact BK232.out) Try.underlying36 rfl zG69) rfl ?_
    exact ⟨_, zH70, by (with_reducible repeat (first | apply zj | apply zk | apply zl)); exact zn (zm (p := ⟨gb232, 1, none⟩) (zm (p := ⟨gb232, 0, none⟩) (zz HO_1005.out BK232.out zG70) (fun _ hk => hk.2) (.int .i64 5)) (fun _ hk => hk.2) (.int .i64 0)) (fun _ hk => hk.1), zK103, zH27, zH19⟩
   replace c19 := Bool.eq_false_iff.mpr c19
   subst c19
   have H1 : ((impl_Stock_lotAt.f kj4 a0_0 a0_1 a0_2 a0_3 a0_4 l0_5 a1_1 a1_2).bind fun bt237 => (if bt237.1 ≥ 0 then (some (7, 0, bt237.2.1, bt237.2.2.1, bt237.2.2.2.1, bt237.2.2.2.2.1, bt237.2.2.2.2.2.1, bt237.2.2.2.2.2.2)) else (if (bt237.2.2.2.2.2.2.length : Int) = 60 then (some (14, 0, bt237.2.1, bt237.2.2.1, bt237.2.2.2.1, bt237.2.2.2.2.1, bt237.2.2.2.2.2.1, bt237.2.2.2.2.2.2)) else (if bt237.2.2.2.2.2.2.length < 2932031007402 then (some (0, a1_3, bt237.2.1, wrap64 (bt237.2.2.1 + a1_3), bt237.2.2.2.1, bt237.2.2.2.2.1, bt237.2.2.2.2.2.1, (bt237.2.2.2.2.2.2 ++ [(⟨a1_1, a1_2, a1_3, a1_4, false⟩ : S38)]))) else (none))))) = some (r1, r2, r3, r4, r5, r6, r7, r8) := by rw [if_neg (show ¬ (false = true) by decide)] at H; exact H
   clear H
   have H := H1
   clear H1
   replace H := Option.bind_eq_some_iff.mp H
   obtain ⟨⟨t237, t238, t239, t240, t241, t242, t243⟩, A230, H⟩ := H
   replace H : (if t237 ≥ 0 then (some (7, 0, t238, t239, t240, t241, t242, t243)) else (if (t243.length : Int) = 60 then (some (14, 0, t238, t239, t240, t241, t242, t243)) else (if t243.length < 2932031007402 then (some (0, a1_3, t238, wrap64 (t239 + a1_3), t240, t241, t242, (t243 ++ [(⟨a1_1, a1_2, a1_3, a1_4, false⟩ : S38)]))) else (none)))) = some (r1, r2, r3, r4, r5, r6, r7, r8) := H
   have A23 := za A230
   clear A230
   by_cases c24 : t237 ≥ 0
   ·rw [if_pos c24] at H
    have c24b0 : decide (0 ≤ t237) = true := decide_eq_true c24
    clear c24
    simp only [Option.some.injEq, Prod.mk.injEq] at H
    obtain ⟨rfl, rfl, rfl, rfl, rfl, rfl, rfl, rfl⟩ := H
    have hnb25 := NB231_0.out
    have hnc25 := NB0_231.out
    have hnb26 := NB231_232.out
    have hnc26 := NB232_231.out
    obtain ⟨hcz27_0, hcz27_1, hcz27_2, hcz27_3, hcz27_4, hfz27_0, hfz27_1, hfz27_2, hfz27_3, hfz27_4⟩ := zB5 BK231.out
    obtain ⟨Ao28, co28, eo28⟩ := zab HO_1005.out
    subst eo28
    go_wp2_with (first | ((with_reducible refine gate_callee (f := 50) rfl ?_); refine goesL_ (some 39) rfl rfl Try.func50 zG69 rfl #[.pointer (some ⟨gi0, 0, none⟩), .string a1_1, .int .i64 a1_2] rfl zG56 ?_; (with_reducible refine (impl_Stock_lotAt.calls kj4 gi0 a0_0 a0_1 a0_2 a0_3 a0_4 (fun k_ => some k_ = (.slice Ao28 l0_5.length co28 : Value).ownBlock) (.slice Ao28 l0_5.length co28) l0_5 a1_1 a1_2 t237 t238 t239 t240 t241 t242 t243 w0 _ ?side1 ?side2 ?side3 ?side4 A23.out).mono ?_); (case side1 => exact zH28); (case side2 => exact zG63); (case side3 => exact GE0.out); (case side4 => exact Kd.R_tight rfl HO_1005.out); rintro e w29 ⟨v244, rfl, ho0, hz0, hb, hkp⟩; refine ⟨_, rfl, ?_⟩; have n_ := zA_ (za (hz0)) (zA_ (za (zan zK138 hkp (fun hs_ => Or.elim hs_ (fun hs_ => (fun e_ => (zai HO_1005.out BK231.out zG70) e_) hs_) (fun e_ => NB231_0.out e_)))) (zA_ (za (zan zK139 hkp (fun hs_ => Or.elim hs_ (fun hs_ => (fun e_ => (zai HO_1005.out BK232.out zG70) e_) hs_) (fun e_ => NB232_0.out e_)))) (zA_ (za (zn (ok' := fun k_ => (P0_5_ k_ ∨ w.heap.size ≤ k_)) ho0 (fun k_ hk_ => Or.elim hk_ (fun hs_ => (HO_1005.out.1 k_ (hs_).symm)) (fun hn_ => (.inr (Nat.le_trans zK102 hn_)))))) (zA_ (za (Kept.then_ (S := (fun k_ => (P0_5_ k_) ∨ k_ = gi0)) zK107 hkp (fun k_ hs_ => Or.elim hs_ (fun hs_ => (fun e_ => (Or.imp_left (fun z_ => (Or.inl z_)) ((HO_1005.out.1 k_ e_.symm)))) hs_) (fun e_ => .inl (Or.inr e_))))) (za (hb)))))); clear BK0 BK231 BK232 HK HB HO_1005; obtain ⟨BK0, BK231, BK232, HO245, HK, HB⟩ := n_; (try clear hb); (try clear hkp); (try clear ho0); (try clear hz0); have hnb30 := NB232_0.out; have hnc30 := NB0_232.out; obtain ⟨hcz31_0, hcz31_1, hfz31_0, hfz31_1⟩ := zB2 BK232.out))
    refine bodyPost_ret (results_cell_row rfl _ _ gb232 36 (zo2 7 0) (0, 0) _ rfl (by (with_reducible repeat (first | refine zc ?_ _ | refine ze ?_ | refine zb ?_ _)); refine zr (cs := (zo2 7 0)) ?_ 1 _ rfl; (with_reducible repeat (first | refine zc ?_ _ | refine ze ?_ | refine zb ?_ _)); refine zr (cs := (zo2 0 0)) ?_ 0 _ rfl; (with_reducible repeat (first | refine zc ?_ _ | refine ze ?_ | refine zb ?_ _)); exact BK232.out) Try.underlying36 rfl zG69) rfl ?_
    exact ⟨_, zH70, by (with_reducible repeat (first | apply zj | apply zk | apply zl)); exact zn (zm (p := ⟨gb232, 1, none⟩) (zm (p := ⟨gb232, 0, none⟩) (zz HO245.out BK232.out zG70) (fun _ hk => hk.2) (.int .i64 7)) (fun _ hk => hk.2) (.int .i64 0)) (fun _ hk => hk.1), zK103, zH27, zH19⟩
   rw [if_neg c24] at H
   have c24b0 : decide (0 ≤ t237) = false := decide_eq_false c24
   clear c24
   by_cases c32 : (t243.length : Int) = 60
   ·rw [if_pos c32] at H
    have c32b0 : ((t243.length : Int) == 60) = true := beq_iff_eq.mpr c32
    have c32b1 : ((t243.length : Int) != 60) = false := bne_eq_false_iff_eq.mpr c32
    clear c32
    simp only [Option.some.injEq, Prod.mk.injEq] at H
    obtain ⟨rfl, rfl, rfl, rfl, rfl, rfl, rfl, rfl⟩ := H
    have hnb33 := NB231_0.out
    have hnc33 := NB0_231.out
    have hnb34 := NB231_232.out
    have hnc34 := NB232_231.out
    obtain ⟨hcz35_0, hcz35_1, hcz35_2, hcz35_3, hcz35_4, hfz35_0, hfz35_1, hfz35_2, hfz35_3, hfz35_4⟩ := zB5 BK231.out
    obtain ⟨Ao36, co36, eo36⟩ := zab HO_1005.out
    subst eo36
    go_wp2_with (first | ((with_reducible refine gate_callee (f := 50) rfl ?_); refine goesL_ (some 39) rfl rfl Try.func50 zG69 rfl #[.pointer (some ⟨gi0, 0, none⟩), .string a1_1, .int .i64 a1_2] rfl zG56 ?_; (with_reducible refine (impl_Stock_lotAt.calls kj4 gi0 a0_0 a0_1 a0_2 a0_3 a0_4 (fun k_ => some k_ = (.slice Ao36 l0_5.length co36 : Value).ownBlock) (.slice Ao36 l0_5.length co36) l0_5 a1_1 a1_2 t237 t238 t239 t240 t241 t242 t243 w0 _ ?side1 ?side2 ?side3 ?side4 A23.out).mono ?_); (case side1 => exact zH28); (case side2 => exact zG63); (case side3 => exact GE0.out); (case side4 => exact Kd.R_tight rfl HO_1005.out); rintro e w37 ⟨v244, rfl, ho0, hz0, hb, hkp⟩; refine ⟨_, rfl, ?_⟩; have n_ := zA_ (za (hz0)) (zA_ (za (zan zK138 hkp (fun hs_ => Or.elim hs_ (fun hs_ => (fun e_ => (zai HO_1005.out BK231.out zG70) e_) hs_) (fun e_ => NB231_0.out e_)))) (zA_ (za (zan zK139 hkp (fun hs_ => Or.elim hs_ (fun hs_ => (fun e_ => (zai HO_1005.out BK232.out zG70) e_) hs_) (fun e_ => NB232_0.out e_)))) (zA_ (za (zn (ok' := fun k_ => (P0_5_ k_ ∨ w.heap.size ≤ k_)) ho0 (fun k_ hk_ => Or.elim hk_ (fun hs_ => (HO_1005.out.1 k_ (hs_).symm)) (fun hn_ => (.inr (Nat.le_trans zK102 hn_)))))) (zA_ (za (Kept.then_ (S := (fun k_ => (P0_5_ k_) ∨ k_ = gi0)) zK107 hkp (fun k_ hs_ => Or.elim hs_ (fun hs_ => (fun e_ => (Or.imp_left (fun z_ => (Or.inl z_)) ((HO_1005.out.1 k_ e_.symm)))) hs_) (fun e_ => .inl (Or.inr e_))))) (za (hb)))))); clear BK0 BK231 BK232 HK HB HO_1005; obtain ⟨BK0, BK231, BK232, HO245, HK, HB⟩ := n_; (try clear hb); (try clear hkp); (try clear ho0); (try clear hz0); have hnb38 := NB0_232.out; have hnc38 := NB232_0.out; obtain ⟨hcz39_0, hcz39_1, hcz39_2, hcz39_3, hcz39_4, hcz39_5, hfz39_0, hfz39_1, hfz39_2, hfz39_3, hfz39_4, hfz39_5⟩ := zB6 BK0.out; obtain ⟨Ao40, co40, eo40⟩ := zab HO245.out; subst eo40; obtain ⟨hcz41_0, hcz41_1, hfz41_0, hfz41_1⟩ := zB2 BK232.out))
    refine bodyPost_ret (results_cell_row rfl _ _ gb232 36 (zo2 14 0) (0, 0) _ rfl (by (with_reducible repeat (first | refine zc ?_ _ | refine ze ?_ | refine zb ?_ _)); refine zr (cs := (zo2 14 0)) ?_ 1 _ rfl; (with_reducible repeat (first | refine zc ?_ _ | refine ze ?_ | refine zb ?_ _)); refine zr (cs := (zo2 0 0)) ?_ 0 _ rfl; (with_reducible repeat (first | refine zc ?_ _ | refine ze ?_ | refine zb ?_ _)); exact BK232.out) Try.underlying36 rfl zG69) rfl ?_
    exact ⟨_, zH70, by (with_reducible repeat (first | apply zj | apply zk | apply zl)); exact zn (zm (p := ⟨gb232, 1, none⟩) (zm (p := ⟨gb232, 0, none⟩) (zz HO245.out BK232.out zG70) (fun _ hk => hk.2) (.int .i64 14)) (fun _ hk => hk.2) (.int .i64 0)) (fun _ hk => hk.1), zK103, zH27, zH19⟩
   rw [if_neg c32] at H
   have c32b0 : ((t243.length : Int) == 60) = false := beq_eq_false_iff_ne.mpr c32
   have c32b1 : ((t243.length : Int) != 60) = true := bne_iff_ne.mpr c32
   by_cases c42 : t243.length < 2932031007402
   rotate_left
   ·rw [if_neg c42] at H
    exact absurd H (by simp)
   rw [if_pos c42] at H
   have LMc42 := za c42
   clear c42
   obtain ⟨y246, hy246⟩ : ∃ y_ : List (S38), y_ = (t243 ++ [(⟨a1_1, a1_2, a1_3, a1_4, false⟩ : S38)]) := ⟨_, rfl⟩
   replace H : (some (0, a1_3, t238, wrap64 (t239 + a1_3), t240, t241, t242, y246)) = some (r1, r2, r3, r4, r5, r6, r7, r8) := by first | (rw [hy246]; with_reducible exact H) | (have H2_ := (Option.bind_some _ _).symm.trans H; rw [hy246]; with_reducible exact H2_) | (have H2_ := (Option.bind_some _ _).symm.trans H; with_reducible exact H2_) | with_reducible exact H | (rw [hy246]; exact H) | exact H
   have Ny246 := za hy246
   clear hy246
   simp only [Option.some.injEq, Prod.mk.injEq] at H
   obtain ⟨rfl, rfl, rfl, rfl, rfl, rfl, rfl, rfl⟩ := H
   have hnb43 := NB231_0.out
   have hnc43 := NB0_231.out
   have hnb44 := NB231_232.out
   have hnc44 := NB232_231.out
   obtain ⟨hcz45_0, hcz45_1, hcz45_2, hcz45_3, hcz45_4, hfz45_0, hfz45_1, hfz45_2, hfz45_3, hfz45_4⟩ := zB5 BK231.out
   obtain ⟨Ao46, co46, eo46⟩ := zab HO_1005.out
   subst eo46
   try go_wp2_with (first | ((with_reducible refine gate_callee (f := 50) rfl ?_); refine goesL_ (some 39) rfl rfl Try.func50 zG69 rfl #[.pointer (some ⟨gi0, 0, none⟩), .string a1_1, .int .i64 a1_2] rfl zG56 ?_; (with_reducible refine (impl_Stock_lotAt.calls kj4 gi0 a0_0 a0_1 a0_2 a0_3 a0_4 (fun k_ => some k_ = (.slice Ao46 l0_5.length co46 : Value).ownBlock) (.slice Ao46 l0_5.length co46) l0_5 a1_1 a1_2 t237 t238 t239 t240 t241 t242 t243 w0 _ ?side1 ?side2 ?side3 ?side4 A23.out).mono ?_); (case side1 => exact zH28); (case side2 => exact zG63); (case side3 => exact GE0.out); (case side4 => exact Kd.R_tight rfl HO_1005.out); rintro e w47 ⟨v244, rfl, ho0, hz0, hb, hkp⟩; refine ⟨_, rfl, ?_⟩; have n_ := zA_ (za (hz0)) (zA_ (za (zan zK138 hkp (fun hs_ => Or.elim hs_ (fun hs_ => (fun e_ => (zai HO_1005.out BK231.out zG70) e_) hs_) (fun e_ => NB231_0.out e_)))) (zA_ (za (zan zK139 hkp (fun hs_ => Or.elim hs_ (fun hs_ => (fun e_ => (zai HO_1005.out BK232.out zG70) e_) hs_) (fun e_ => NB232_0.out e_)))) (zA_ (za (zn (ok' := fun k_ => (P0_5_ k_ ∨ w.heap.size ≤ k_)) ho0 (fun k_ hk_ => Or.elim hk_ (fun hs_ => (HO_1005.out.1 k_ (hs_).symm)) (fun hn_ => (.inr (Nat.le_trans zK102 hn_)))))) (zA_ (za (Kept.then_ (S := (fun k_ => (P0_5_ k_) ∨ k_ = gi0)) zK107 hkp (fun k_ hs_ => Or.elim hs_ (fun hs_ => (fun e_ => (Or.imp_left (fun z_ => (Or.inl z_)) ((HO_1005.out.1 k_ e_.symm)))) hs_) (fun e_ => .inl (Or.inr e_))))) (za (hb)))))); clear BK0 BK231 BK232 HK HB HO_1005; obtain ⟨BK0, BK231, BK232, HO245, HK, HB⟩ := n_; (try clear hb); (try clear hkp); (try clear ho0); (try clear hz0); have hnb48 := NB0_232.out; have hnc48 := NB232_0.out; obtain ⟨hcz49_0, hcz49_1, hcz49_2, hcz49_3, hcz49_4, hcz49_5, hfz49_0, hfz49_1, hfz49_2, hfz49_3, hfz49_4, hfz49_5⟩ := zB6 BK0.out; obtain ⟨Ao50, co50, eo50⟩ := zab HO245.out; subst eo50))
   obtain ⟨n0_, n1_, n2_, n3_, n4_, n5_⟩ := zD6 (zl HO245.out) (ze BK0.out) (ze BK231.out) (ze BK232.out) (Kept.drew HK.out) (zh HB.out)
   clear HO245 BK0 BK231 BK232 HK HB
   have HO245 := n0_
   have BK0 := n1_
   have BK231 := n2_
   have BK232 := n3_
   have HK := n4_
   have HB := n5_
   clear n0_ n1_ n2_ n3_ n4_ n5_
   refine start_ (n := 19) (S := fun w' => w'.cell? ⟨gi0, 0, none⟩ = some (.int .i64 t238) ∧ w'.cell? ⟨gi0, 1, none⟩ = some (.int .i64 t239) ∧ w'.cell? ⟨gi0, 2, none⟩ = some (.int .i64 t240) ∧ w'.cell? ⟨gi0, 3, none⟩ = some (.int .i64 t241) ∧ w'.cell? ⟨gi0, 4, none⟩ = some (.int .i64 t242) ∧ w'.cell? ⟨gi0, 5, none⟩ = some (.slice Ao50 t243.length co50) ∧ w'.cell? ⟨gb231, 0, none⟩ = some (.int .i64 a1_0) ∧ w'.cell? ⟨gb231, 1, none⟩ = some (.string a1_1) ∧ w'.cell? ⟨gb231, 2, none⟩ = some (.int .i64 a1_2) ∧ w'.cell? ⟨gb231, 3, none⟩ = some (.int .i64 a1_3) ∧ w'.cell? ⟨gb231, 4, none⟩ = some (.int .i64 a1_4)) (ds := [18]) #[false, false, false, false, false, false, false, false, false, false, false, false, false, false, false, false, false, false, false] zG69 rfl rfl ⟨(blk_cell BK0.out 0).trans rfl, (blk_cell BK0.out 1).trans rfl, (blk_cell BK0.out 2).trans rfl, (blk_cell BK0.out 3).trans rfl, (blk_cell BK0.out 4).trans rfl, (blk_cell BK0.out 5).trans rfl, (blk_cell BK231.out 0).trans rfl, (blk_cell BK231.out 1).trans rfl, (blk_cell BK231.out 2).trans rfl, (blk_cell BK231.out 3).trans rfl, (blk_cell BK231.out 4).trans rfl⟩ (fun hHeld => ?_); refine with_tabW impl_Stock_receive.tab9 impl_Stock_receive.bits9 (fun HT_ HW_ => ?_)
   generalize w47.drew = w51 at HO245 BK0 BK231 BK232 HK HB hHeld ⊢
   refine zP 0 50 #[true, false, false, false, false, false, false, false, false, false, false, false, false, false, false, false, false, false, false] HT_ ?_
   refine zP 1 51 #[true, true, false, false, false, false, false, false, false, false, false, false, false, false, false, false, false, false, false] HT_ ?_
   refine zP 2 52 #[true, true, true, false, false, false, false, false, false, false, false, false, false, false, false, false, false, false, false] HT_ ?_
   refine zP 3 53 #[true, true, true, true, false, false, false, false, false, false, false, false, false, false, false, false, false, false, false] HT_ ?_
   refine zP 5 55 #[true, true, true, true, false, true, false, false, false, false, false, false, false, false, false, false, false, false, false] HT_ ?_
   refine zP 7 57 #[true, true, true, true, false, true, false, true, false, false, false, false, false, false, false, false, false, false, false] HT_ ?_
   refine zP 9 59 #[true, true, true, true, false, true, false, true, false, true, false, false, false, false, false, false, false, false, false] HT_ ?_
   refine zP 11 61 #[true, true, true, true, false, true, false, true, false, true, false, true, false, false, false, false, false, false, false] HT_ ?_
   refine zQ 4 54 #[true, true, true, true, true, true, false, true, false, true, false, true, false, false, false, false, false, false, false] HT_ HW_ hHeld ?_
   refine zQ 6 56 #[true, true, true, true, true, true, true, true, false, true, false, true, false, false, false, false, false, false, false] HT_ HW_ hHeld ?_
   refine zQ 8 58 #[true, true, true, true, true, true, true, true, true, true, false, true, false, false, false, false, false, false, false] HT_ HW_ hHeld ?_
   refine zQ 10 60 #[true, true, true, true, true, true, true, true, true, true, true, true, false, false, false, false, false, false, false] HT_ HW_ hHeld ?_
   refine zQ 12 62 #[true, true, true, true, true, true, true, true, true, true, true, true, true, false, false, false, false, false, false] HT_ HW_ hHeld ?_
   refine zP 13 63 #[true, true, true, true, true, true, true, true, true, true, true, true, true, true, false, false, false, false, false] HT_ ?_
   refine one_ (i := 14) (N := some 64) #[true, true, true, true, true, true, true, true, true, true, true, true, true, true, true, false, false, false, false] rfl rfl (one_of HT_.out zG69) zG70 (fun K hK => ?_)
   refine value_ (w1 := ?_) (v := ?_) (by rfl) rfl ?_ ?_
   rotate_left 2
   ·go_simp
    constructor
    ·rfl
    ·rfl
   refine hK.out _ _ ⟨(blk_cell (zb BK0.out _) 0).trans rfl, (blk_cell (zb BK0.out _) 1).trans rfl, (blk_cell (zb BK0.out _) 2).trans rfl, (blk_cell (zb BK0.out _) 3).trans rfl, (blk_cell (zb BK0.out _) 4).trans rfl, (blk_cell (zb BK0.out _) 5).trans rfl, (blk_cell (zb BK231.out _) 0).trans rfl, (blk_cell (zb BK231.out _) 1).trans rfl, (blk_cell (zb BK231.out _) 2).trans rfl, (blk_cell (zb BK231.out _) 3).trans rfl, (blk_cell (zb BK231.out _) 4).trans rfl⟩ (fun hHeld => ?_)
   clear hK K
   refine norm_ (a' := ?_) ?_ ?_
   rotate_left
   ·show Act.put _ (some 64) _ = _
    simp only [Act.put, List.setIfInBounds_toArray, List.set_cons_zero, List.set_cons_succ, i64_w, i32_w]
    rfl
   refine one_ (i := 15) (N := some 65) #[true, true, true, true, true, true, true, true, true, true, true, true, true, true, true, true, false, false, false] rfl rfl (one_of HT_.out zG69) zG70 (fun K hK => ?_)
   refine Kd.R_append_step k38 (w0 := w0) w0.heap.size (by rfl) (.tmp 54) (.tmp 64) 27 38 (.agg #[(.string ⟨#[]⟩), (.int .i64 0), (.int .i64 0), (.int .i64 0), (.bool false)]) 48 rfl Try.underlying27 info38 rfl zG70 (by omega) (.slice Ao50 t243.length co50) t243 (⟨a1_1, a1_2, a1_3, a1_4, false⟩ : S38) [.string a1_1, .int .i64 a1_2, .int .i64 a1_3, .int .i64 a1_4, .bool false] (fun k_ => (P0_5_ k_ ∨ w.heap.size ≤ k_)) (fun _ => False) rfl rfl ?aP (fun _ hk => hk.elim) ?aF ?aO ?aB ?aS ?aL ?_
   (case aP => exact k38_mkM _ _ _ (⟨a1_1, a1_2, a1_3, a1_4, false⟩ : S38))
   (case aB => exact zK117)
   (case aF => exact (fun k_ hk => (.inr (Nat.le_trans zK102 hk))))
   (case aO => exact (by (with_reducible repeat (first | apply zj | apply zk | apply zl)); exact HO245.out))
   (case aS => exact (zv zK117))
   (case aL => have := LMc42.out; omega)
   intro v247 w52 ho hb hg hat
   rw [← Ny246.out] at ho
   obtain ⟨n0_, n1_, n2_, n3_, n4_, n5_⟩ := zD6 (zam (g := gi0) (o := .cells (zs6 t238 t239 t240 t241 t242 (.slice Ao50 t243.length co50)) 29 (0, 0)) zG63 hg (zai HO245.out BK0.out zG70)) (zam (g := gb231) (o := .cells (za5 a1_0 a1_1 a1_2 a1_3 a1_4) 34 (0, 0)) zK138 hg (zai HO245.out BK231.out zG70)) (zam (g := gb232) (o := .cells (zo2 0 0) 36 (0, 0)) zK139 hg (zai HO245.out BK232.out zG70)) (hb) (zat (S := (fun k_ => (P0_5_ k_) ∨ k_ = gi0)) hg zK107 (fun k_ e_ => (Or.imp_left (fun z_ => (Or.inl z_)) ((HO245.out.1 k_ e_))))) (ho)
   clear BK0 BK231 BK232 HB HK HO245
   have BK0 := n0_
   have BK231 := n1_
   have BK232 := n2_
   have HB := n3_
   have HK := n4_
   have HO248 := n5_
   clear n0_ n1_ n2_ n3_ n4_ n5_
   clear ho hb hg hat
   obtain ⟨Ao53, co53, eo53⟩ := zab HO248.out
   (first | subst eo53 | (injection eo53 with f1_ f2_ f3_; have f4_ := f1_.symm; have f5_ := f3_.symm; clear f1_ f2_ f3_; subst f4_; subst f5_))
   refine hK.out _ _ ⟨(blk_cell BK0.out 0).trans rfl, (blk_cell BK0.out 1).trans rfl, (blk_cell BK0.out 2).trans rfl, (blk_cell BK0.out 3).trans rfl, (blk_cell BK0.out 4).trans rfl, (blk_cell BK0.out 5).trans rfl, (blk_cell BK231.out 0).trans rfl, (blk_cell BK231.out 1).trans rfl, (blk_cell BK231.out 2).trans rfl, (blk_cell BK231.out 3).trans rfl, (blk_cell BK231.out 4).trans rfl⟩ (fun hHeld => ?_)
   clear hK K
   refine norm_ (a' := ?_) ?_ ?_
   rotate_left
   ·show Act.put _ (some 65) _ = _
    simp only [Act.put, List.setIfInBounds_toArray, List.set_cons_zero, List.set_cons_succ, i64_w, i32_w]
    rfl
   refine zP 16 66 #[true, true, true, true, true, true, true, true, true, true, true, true, true, true, true, true, true, false, false] HT_ ?_
   refine zP 17 67 #[true, true, true, true, true, true, true, true, true, true, true, true, true, true, true, true, true, true, false] HT_ ?_
   refine last_ (i := 18) (N := none) #[true, true, true, true, true, true, true, true, true, true, true, true, true, true, true, true, true, true, true] rfl rfl (one_of HT_.out zG69) zG70 (fun K hK => ?_)
   have hs54 : w52.cell? ⟨gi0, 5, none⟩ = some (.slice Ao50 t243.length co50) := (blk_cell BK0.out 5).trans rfl
   have hfs54 := zd BK0.out 5
   have hns54_1 := NB231_0.out
   have hns54_2 := NB232_0.out
   have hms54_1 := NB0_231.out
   have hms54_2 := NB0_232.out
   refine skip_ (w1 := ?_) (by rfl) rfl ?_ ?_
   rotate_left
   ·go_simp
    rfl
   refine hK.out _ _ ?_
   clear hK K
   refine done_ (done_of HT_.out zG69) ?_
   try go_wp2
   have n0_ : Aside0 (Kd.R k38 38 (w52.setCell ⟨gi0, 5, none⟩ (.slice Ao53 y246.length co53)) w0.heap.size (fun k_ => (P0_5_ k_ ∨ w.heap.size ≤ k_)) (.slice Ao53 y246.length co53) y246) := ⟨by (with_reducible repeat (first | apply zj | apply zk | apply zl)); exact zn (zm (p := ⟨gi0, 5, none⟩) (zz HO248.out BK0.out zG70) (fun _ hk => hk.2) (.slice Ao53 y246.length co53)) (fun _ hk => hk.1)⟩
   have n1_ : Aside0 ((w52.setCell ⟨gi0, 5, none⟩ (.slice Ao53 y246.length co53)).heap[gi0]? = some (.cells (zs6 t238 t239 t240 t241 t242 (.slice Ao53 y246.length co53)) 29 (0, 0))) := ⟨by (with_reducible repeat (first | refine zc ?_ _ | refine ze ?_ | refine zb ?_ _)); refine zr (cs := (zs6 t238 t239 t240 t241 t242 (.slice Ao50 t243.length co50))) ?_ 5 _ rfl; (with_reducible repeat (first | refine zc ?_ _ | refine ze ?_ | refine zb ?_ _)); exact BK0.out⟩
   have n2_ : Aside0 ((w52.setCell ⟨gi0, 5, none⟩ (.slice Ao53 y246.length co53)).heap[gb231]? = some (.cells (za5 a1_0 a1_1 a1_2 a1_3 a1_4) 34 (0, 0))) := ⟨by (with_reducible repeat (first | refine zc ?_ _ | refine ze ?_ | refine zb ?_ _)); refine zp ?_ NB231_0.out _; (with_reducible repeat (first | refine zc ?_ _ | refine ze ?_ | refine zb ?_ _)); exact BK231.out⟩
   have n3_ : Aside0 ((w52.setCell ⟨gi0, 5, none⟩ (.slice Ao53 y246.length co53)).heap[gb232]? = some (.cells (zo2 0 0) 36 (0, 0))) := ⟨by (with_reducible repeat (first | refine zc ?_ _ | refine ze ?_ | refine zb ?_ _)); refine zp ?_ NB232_0.out _; (with_reducible repeat (first | refine zc ?_ _ | refine ze ?_ | refine zb ?_ _)); exact BK232.out⟩
   have n4_ : Aside0 (Kept w (w52.setCell ⟨gi0, 5, none⟩ (.slice Ao53 y246.length co53)) (fun k_ => (P0_5_ k_) ∨ k_ = gi0)) := ⟨zH19⟩
   have n5_ : Aside0 (Below w0.heap.size w0 (w52.setCell ⟨gi0, 5, none⟩ (.slice Ao53 y246.length co53))) := ⟨zH27⟩
   (try clear HO248)
   (try clear BK0)
   (try clear BK231)
   (try clear BK232)
   (try clear HK)
   (try clear HB)
   generalize (w52.setCell ⟨gi0, 5, none⟩ (.slice Ao53 y246.length co53)) = w55 at n0_ n1_ n2_ n3_ n4_ n5_ ⊢
   have HO248 := n0_
   have BK0 := n1_
   have BK231 := n2_
   have BK232 := n3_
   have HK := n4_
   have HB := n5_
   clear n0_ n1_ n2_ n3_ n4_ n5_
   obtain ⟨n0_, n1_, n2_, n3_, n4_, n5_⟩ := zD6 (zl HO248.out) (ze BK0.out) (ze BK231.out) (ze BK232.out) (Kept.drew HK.out) (zh HB.out)
   clear HO248 BK0 BK231 BK232 HK HB
   have HO248 := n0_
   have BK0 := n1_
   have BK231 := n2_
   have BK232 := n3_
   have HK := n4_
   have HB := n5_
   clear n0_ n1_ n2_ n3_ n4_ n5_
   refine start_ (n := 10) (S := fun w' => w'.cell? ⟨gi0, 0, none⟩ = some (.int .i64 t238) ∧ w'.cell? ⟨gi0, 1, none⟩ = some (.int .i64 t239) ∧ w'.cell? ⟨gi0, 2, none⟩ = some (.int .i64 t240) ∧ w'.cell? ⟨gi0, 3, none⟩ = some (.int .i64 t241) ∧ w'.cell? ⟨gi0, 4, none⟩ = some (.int .i64 t242) ∧ w'.cell? ⟨gi0, 5, none⟩ = some (.slice Ao53 y246.length co53) ∧ w'.cell? ⟨gb231, 0, none⟩ = some (.int .i64 a1_0) ∧ w'.cell? ⟨gb231, 1, none⟩ = some (.string a1_1) ∧ w'.cell? ⟨gb231, 2, none⟩ = some (.int .i64 a1_2) ∧ w'.cell? ⟨gb231, 3, none⟩ = some (.int .i64 a1_3) ∧ w'.cell? ⟨gb231, 4, none⟩ = some (.int .i64 a1_4)) (ds := [9]) #[false, false, false, false, false, false, false, false, false, false] zG69 rfl rfl ⟨(blk_cell BK0.out 0).trans rfl, (blk_cell BK0.out 1).trans rfl, (blk_cell BK0.out 2).trans rfl, (blk_cell BK0.out 3).trans rfl, (blk_cell BK0.out 4).trans rfl, (blk_cell BK0.out 5).trans rfl, (blk_cell BK231.out 0).trans rfl, (blk_cell BK231.out 1).trans rfl, (blk_cell BK231.out 2).trans rfl, (blk_cell BK231.out 3).trans rfl, (blk_cell BK231.out 4).trans rfl⟩ (fun hHeld => ?_); refine with_tabW impl_Stock_receive.tab10 impl_Stock_receive.bits10 (fun HT_ HW_ => ?_)
   generalize w55.drew = w56 at HO248 BK0 BK231 BK232 HK HB hHeld ⊢
   refine zP 0 68 #[true, false, false, false, false, false, false, false, false, false] HT_ ?_
   refine zP 1 69 #[true, true, false, false, false, false, false, false, false, false] HT_ ?_
   refine zP 2 70 #[true, true, true, false, false, false, false, false, false, false] HT_ ?_
   refine zP 4 72 #[true, true, true, false, true, false, false, false, false, false] HT_ ?_
   refine zQ 3 71 #[true, true, true, true, true, false, false, false, false, false] HT_ HW_ hHeld ?_
   refine zQ 5 73 #[true, true, true, true, true, true, false, false, false, false] HT_ HW_ hHeld ?_
   refine zP 6 74 #[true, true, true, true, true, true, true, false, false, false] HT_ ?_
   refine zP 7 75 #[true, true, true, true, true, true, true, true, false, false] HT_ ?_
   refine zP 8 76 #[true, true, true, true, true, true, true, true, true, false] HT_ ?_
   refine last_ (i := 9) (N := none) #[true, true, true, true, true, true, true, true, true, true] rfl rfl (one_of HT_.out zG69) zG70 (fun K hK => ?_)
   have hs57 : w56.cell? ⟨gi0, 1, none⟩ = some (.int .i64 t239) := (blk_cell BK0.out 1).trans rfl
   have hfs57 := zd BK0.out 1
   have hns57_1 := NB231_0.out
   have hns57_2 := NB232_0.out
   have hms57_1 := NB0_231.out
   have hms57_2 := NB0_232.out
   refine skip_ (w1 := ?_) (by rfl) rfl ?_ ?_
   rotate_left
   ·go_simp
    rfl
   refine hK.out _ _ ?_
   clear hK K
   refine done_ (done_of HT_.out zG69) ?_
   obtain ⟨hcz58_0, hcz58_1, hcz58_2, hcz58_3, hcz58_4, hfz58_0, hfz58_1, hfz58_2, hfz58_3, hfz58_4⟩ := zB5 BK231.out
   obtain ⟨hcz59_0, hcz59_1, hfz59_0, hfz59_1⟩ := zB2 BK232.out
   try go_wp2
   refine bodyPost_ret (results_cell_row rfl _ _ gb232 36 (zo2 0 a1_3) (0, 0) _ rfl (by (with_reducible repeat (first | refine zc ?_ _ | refine ze ?_ | refine zb ?_ _)); refine zr (cs := (zo2 0 0)) ?_ 1 _ rfl; (with_reducible repeat (first | refine zc ?_ _ | refine ze ?_ | refine zb ?_ _)); refine zr (cs := (zo2 0 0)) ?_ 0 _ rfl; (with_reducible repeat (first | refine zc ?_ _ | refine ze ?_ | refine zb ?_ _)); refine zp ?_ NB232_0.out _; (with_reducible repeat (first | refine zc ?_ _ | refine ze ?_ | refine zb ?_ _)); exact BK232.out) Try.underlying36 rfl zG69) rfl ?_
   exact ⟨_, zH70, by (with_reducible repeat (first | apply zj | apply zk | apply zl)); exact zn (zm (p := ⟨gb232, 1, none⟩) (zm (p := ⟨gb232, 0, none⟩) (zm (p := ⟨gi0, 1, none⟩) (zz (zz HO248.out BK0.out zG70) BK232.out zG70) (fun _ hk => hk.1.2) (.int .i64 (wrap64 (t239 + a1_3)))) (fun _ hk => hk.2) (.int .i64 0)) (fun _ hk => hk.2) (.int .i64 a1_3)) (fun _ hk => hk.1.1), (by (with_reducible repeat (first | refine zc ?_ _ | refine ze ?_ | refine zb ?_ _)); refine zp ?_ NB0_232.out _; (with_reducible repeat (first | refine zc ?_ _ | refine ze ?_ | refine zb ?_ _)); refine zp ?_ NB0_232.out _; (with_reducible repeat (first | refine zc ?_ _ | refine ze ?_ | refine zb ?_ _)); refine zr (cs := (zs6 t238 t239 t240 t241 t242 (.slice Ao53 y246.length co53))) ?_ 1 _ rfl; (with_reducible repeat (first | refine zc ?_ _ | refine ze ?_ | refine zb ?_ _)); exact BK0.out), zH27, zH19⟩
end Go.Proofs.Ytnkceaibkfbeaaa.F
