-- squeezed
-- made by pp.py (wip/tools) out of the translation; Lean checks it
import Derived.Test.YtdohpbhljifodaaD0
import Derived.Test.YtdohpbhljifodaaD1
namespace Go.Proofs.Ytdohpbhljifodaa.D
open Go.RowKit Go.Proofs.YtdohpbhljifodaaW.PrintWords Go.Proofs.YtdohpbhljifodaaW.PrintLast Go.Proofs.YtdohpbhljifodaaW.PrintMore
attribute [local go_sem] max2_int min2_int max_two min_two max_three min_three max_four min_four   -- for this text's walks alone
set_option linter.unusedVariables false
set_option linter.unusedSimpArgs false


/-! ### spec_l00Src_cartActs: function 21 -/
def spec_l00Src_cartActs.l0 : Nat → List (S54) → Int → List Int → Int → Int → Option ((List (S54)) × Int × Int)
 | 0, _, _, _, _, _ => none
 | k + 1, x3, x4, x1000, x1001, x1002 => if x4 > 0 then ((spec_l00Src_next.f x1000 x1001 x1002 4).bind fun bt126 => ((spec_l00Src_next.f x1000 bt126.2.1 bt126.2.2 4).bind fun bt129 => ((spec_l00Src_next.f x1000 bt129.2.1 bt129.2.2 9).bind fun bt132 => ((spec_l00Src_next.f x1000 bt132.2.1 bt132.2.2 20).bind fun bt135 => ((spec_l00Src_chance.f x1000 bt135.2.1 bt135.2.2 12).bind fun bt139 => (if bt139.1 = true then ((spec_l00Src_next.f x1000 bt139.2.1 bt139.2.2 6).bind fun bt142 => ((some (([0, 1000000, 1000001] : List Int) : List Int)).bind fun y145 => ((spec_l00Src_next.f x1000 bt142.2.1 bt142.2.2 3).bind fun bt148 => (if 0 ≤ bt148.1 then (if bt148.1 < (y145.length : Int) then ((some (([0, 100000, 1] : List Int) : List Int)).bind fun y152 => ((spec_l00Src_next.f x1000 bt148.2.1 bt148.2.2 3).bind fun bt155 => (if 0 ≤ bt155.1 then (if bt155.1 < (y152.length : Int) then ((some (([0, (-1), 10000, 10001] : List Int) : List Int)).bind fun y159 => ((spec_l00Src_next.f x1000 bt155.2.1 bt155.2.2 4).bind fun bt162 => (if 0 ≤ bt162.1 then (if bt162.1 < (y159.length : Int) then (if x3.length < 4398046511104 then (spec_l00Src_cartActs.l0 k (x3 ++ [(⟨bt142.1, rd y145 bt148.1, rd y152 bt155.1, rd y159 bt162.1⟩ : S54)]) (wrap64 (x4 - 1)) x1000 bt162.2.1 bt162.2.2) else (none)) else (none)) else (none)))) else (none)) else (none)))) else (none)) else (none))))) else (if x3.length < 4398046511104 then (spec_l00Src_cartActs.l0 k (x3 ++ [(⟨wrap64 (1 + bt126.1), wrap64 (1 + bt129.1), wrap64 (1 + bt132.1), wrap64 (1 + bt135.1)⟩ : S54)]) (wrap64 (x4 - 1)) x1000 bt139.2.1 bt139.2.2) else (none)))))))) else (some (x3, x1001, x1002))
def spec_l00Src_cartActs.f (k : Nat) (s0_0 : List Int) (s0_1 : Int) (s0_2 : Int) : Option ((List (S54)) × Int × Int) := (spec_l00Src_size.f s0_0 s0_1 s0_2 20).bind fun bt120 => ((spec_l00Src_next.f s0_0 bt120.2.1 bt120.2.2 (wrap64 (bt120.1 + 2))).bind fun bt123 => (spec_l00Src_cartActs.l0 k (([] : List (S54))) bt123.1 s0_0 bt123.2.1 bt123.2.2))
theorem spec_l00Src_cartActs.mono_l : ∀ k, (∀ y0 y1 y2 y3 y4, LeO (spec_l00Src_cartActs.l0 k y0 y1 y2 y3 y4) (spec_l00Src_cartActs.l0 (k + 1) y0 y1 y2 y3 y4))
 | 0 => fun _ _ _ _ _ r h => by simp [spec_l00Src_cartActs.l0] at h
 | k + 1 => by
  have ih0 := spec_l00Src_cartActs.mono_l k
  ·intro y0 y1 y2 y3 y4
   unfold spec_l00Src_cartActs.l0
   repeat' first
   | (with_reducible exact ih0 _ _ _ _ _)
   | (with_reducible exact LeO.refl _)
   | (with_reducible exact LeO.none _)
   | (with_reducible refine LeO.ite ?_ ?_)
   | (with_reducible refine LeO.bind ?_ (fun _ => ?_))
   | exact ih0 _ _ _ _ _
   | exact LeO.none _
   | refine LeO.ite ?_ ?_
   | refine LeO.bind ?_ (fun _ => ?_)
theorem spec_l00Src_cartActs.mono : ∀ a0 a1 a2 k, LeO (spec_l00Src_cartActs.f k a0 a1 a2) (spec_l00Src_cartActs.f (k + 1) a0 a1 a2) := by
 intro a0 a1 a2 k
 have ih0 := spec_l00Src_cartActs.mono_l k
 unfold spec_l00Src_cartActs.f
 repeat' first
   | (with_reducible exact ih0 _ _ _ _ _)
   | (with_reducible exact LeO.refl _)
   | (with_reducible exact LeO.none _)
   | (with_reducible refine LeO.ite ?_ ?_)
   | (with_reducible refine LeO.bind ?_ (fun _ => ?_))
   | exact ih0 _ _ _ _ _
   | exact LeO.none _
   | refine LeO.ite ?_ ?_
   | refine LeO.bind ?_ (fun _ => ?_)
def spec_l00Src_cartActs.T7 : Bool × List (List Nat × List Nat) := (true, [([], []), ([0], [0]), ([], []), ([], []), ([3, 1], [3]), ([2, 4], [2, 4]), ([5], [5]), ([], []), ([], []), ([8, 4], [8]), ([7, 9], [7, 9]), ([10], [10]), ([], []), ([], []), ([13, 9], [13]), ([12, 14], [12, 14]), ([15], [15]), ([1, 6, 11, 16], [1, 6, 11, 16]), ([17, 14, 0, 1, 2, 3, 4, 5, 6, 7, 8, 9, 10, 11, 12, 13, 14, 15, 16, 17], [17])])
def spec_l00Src_cartActs.B7 : List Nat := [0, 1, 0, 0, 11, 31, 63, 0, 0, 283, 923, 1947, 0, 0, 8987, 29467, 62235, 131071, 262143]
theorem spec_l00Src_cartActs.tab7 : rtab .any (opsOf Try.f21 7) = spec_l00Src_cartActs.T7 := by kernel_rfl
theorem spec_l00Src_cartActs.bits7 : waitsOk spec_l00Src_cartActs.T7.2 spec_l00Src_cartActs.B7 = true := by kernel_rfl
set_option maxHeartbeats 64000000 in
set_option maxRecDepth 100000 in
theorem spec_l00Src_cartActs.calls (k : Nat) (g : Nat) (s0_0 : List Int) (s0_1 : Int) (s0_2 : Int) (r1 : List (S54)) (r2 : Int) (r3 : Int) (w0 w : World) (hI : IsS66 w0 w g s0_0 s0_1 s0_2) (hB : Below w0.heap.size w0 w) (h : spec_l00Src_cartActs.f k s0_0 s0_1 s0_2 = some (r1, r2, r3)) :
  Calls Try.prog 21 #[.pointer (some ⟨g, 0, none⟩)] w fun e w' => ∃ v0_ : Value, e = .returned (v0_) ∧ Kd.R k54 54 w' w.heap.size (fun _ => True) v0_ r1 ∧ IsS66 w0 w' g s0_0 r2 r3 ∧ Below w0.heap.size w0 w' ∧ KeepBut w w' g none := by
 have hu54 := Try.underlying54
 obtain ⟨HI0, HK, HL, HW0, HB⟩ := zD5 hI (zau w g none) hB.size hB.size hB
 clear hI hB
 have H : ((spec_l00Src_size.f s0_0 s0_1 s0_2 20).bind fun bt120 => ((spec_l00Src_next.f s0_0 bt120.2.1 bt120.2.2 (wrap64 (bt120.1 + 2))).bind fun bt123 => (spec_l00Src_cartActs.l0 k (([] : List (S54))) bt123.1 s0_0 bt123.2.1 bt123.2.2))) = some (r1, r2, r3) := h
 clear h
 obtain ⟨y117, hy117⟩ : ∃ y_ : List (S54), y_ = (([] : List (S54))) := ⟨_, rfl⟩
 replace H : ((spec_l00Src_size.f s0_0 s0_1 s0_2 20).bind fun bt120 => ((spec_l00Src_next.f s0_0 bt120.2.1 bt120.2.2 (wrap64 (bt120.1 + 2))).bind fun bt123 => (spec_l00Src_cartActs.l0 k y117 bt123.1 s0_0 bt123.2.1 bt123.2.2))) = some (r1, r2, r3) := by first | (rw [hy117]; with_reducible exact H) | (have H2_ := (Option.bind_some _ _).symm.trans H; rw [hy117]; with_reducible exact H2_) | (have H2_ := (Option.bind_some _ _).symm.trans H; with_reducible exact H2_) | with_reducible exact H | (rw [hy117]; exact H) | exact H
 have Ny117 := za hy117
 clear hy117
 replace H := Option.bind_eq_some_iff.mp H
 obtain ⟨⟨t120, t121, t122⟩, A20, H⟩ := H
 replace H : ((spec_l00Src_next.f s0_0 t121 t122 (wrap64 (t120 + 2))).bind fun bt123 => (spec_l00Src_cartActs.l0 k y117 bt123.1 s0_0 bt123.2.1 bt123.2.2)) = some (r1, r2, r3) := H
 have A2 := za A20
 clear A20
 replace H := Option.bind_eq_some_iff.mp H
 obtain ⟨⟨t123, t124, t125⟩, A30, H⟩ := H
 replace H : (spec_l00Src_cartActs.l0 k y117 t123 s0_0 t124 t125) = some (r1, r2, r3) := H
 have A3 := za A30
 clear A30
 have H' := za H
 clear H
 go_enter Try.func21, Try.ntmps21
 go_wp2_with (first | ((with_reducible refine gate_dst (N := 6) rfl ?_); refine Kd.R_lit k54 _ 54 ?hg (N := 6) ?hd (xs := ([] : List (S54))) (inner := []) (ok := fun _ => True) (okp := fun _ => True) ?hr ?hp (fun _ hk => hk) trivial (Below.refl _ _) (Nat.le_refl _) (by simp) ?_; (case hd => rfl); (case hg => rfl); (case hr => exact zH37); (case hp => exact (Reps.none _ _)); intro v118 w4 ho5 hb hg_ hnew_; clear hg_ hnew_; (first | rw [← Ny117.out] at ho5 | (simp only [Int.reduceToNat] at ho5; rw [← Ny117.out] at ho5)); have n_ := zA_ (za (zah ho5 (keep_size (w := w) (g := g) (row := none) zG55))) (zA_ (za (IsS66.below zK49 hb)) (zA_ (za (zv zG55 (zap hb g none) (.inl rfl))) (za (zp zK54 hb)))); clear HI0 HK HB; obtain ⟨HO119, HI0, HK, HB⟩ := n_; clear hb ho5) | ((with_reducible refine gate_callee (f := 34) rfl ?_); refine goesL_ (some 9) rfl rfl Try.func34 zG63 rfl #[.pointer (some ⟨g, 0, none⟩), .int .i64 20] rfl zG54 ?_; (with_reducible refine (spec_l00Src_size.calls g s0_0 s0_1 s0_2 20 t120 t121 t122 w0 _ ?side1 ?side2 A2.out).mono ?_); (case side1 => exact zH15); (case side2 => exact zH26); rintro e w6 ⟨rfl, hi, hb, hk⟩; refine ⟨_, rfl, ?_⟩; have n_ := zA_ (za (zn (zw (IsS66.apart (show IsS66 w0 _ g s0_0 s0_1 s0_2 from by repeat (first | (with_reducible first | exact HI0.out | apply IsS66.alloc | apply IsS66.drewN | apply IsS66.drew | apply IsS66.set_1 | apply IsS66.set_2) | exact HI0.out)) (by (with_reducible repeat (first | apply zl | apply zk | apply zm)); exact HO119.out) zG64) hk (fun _ h => h.2)) (fun _ h => h.1))) (zA_ (za (zv zG55 hk (.inl rfl))) (zA_ (za (hb)) (za (hi)))); clear HO119 HK HB HI0; obtain ⟨HO119, HK, HB, HI0⟩ := n_; (try clear hb); (try clear hk); (try clear hi)) | ((with_reducible refine gate_callee (f := 20) rfl ?_); refine goesL_ (some 11) rfl rfl Try.func20 zG63 rfl #[.pointer (some ⟨g, 0, none⟩), .int .i64 (wrap64 (t120 + 2))] rfl zG54 ?_; (with_reducible refine (spec_l00Src_next.calls g s0_0 t121 t122 (wrap64 (t120 + 2)) t123 t124 t125 w0 _ ?side1 ?side2 A3.out).mono ?_); (case side1 => exact zH15); (case side2 => exact zH26); rintro e w7 ⟨rfl, hi, hb, hk⟩; refine ⟨_, rfl, ?_⟩; have n_ := zA_ (za (zn (zw (IsS66.apart (show IsS66 w0 _ g s0_0 t121 t122 from by repeat (first | (with_reducible first | exact HI0.out | apply IsS66.alloc | apply IsS66.drewN | apply IsS66.drew | apply IsS66.set_1 | apply IsS66.set_2) | exact HI0.out)) (by (with_reducible repeat (first | apply zl | apply zk | apply zm)); exact HO119.out) zG64) hk (fun _ h => h.2)) (fun _ h => h.1))) (zA_ (za (zv zG55 hk (.inl rfl))) (zA_ (za (hb)) (za (hi)))); clear HO119 HK HB HI0; obtain ⟨HO119, HK, HB, HI0⟩ := n_; (try clear hb); (try clear hk); (try clear hi)))
 go_loopg [3, 4] k (fun kq v3 v4 w' => ∃ (x3_1 : List (S54)) (x4_1 : Int) (x1001_1 : Int) (x1002_1 : Int), v4 = .int .i64 x4_1 ∧ Aside0 (spec_l00Src_cartActs.l0 kq x3_1 x4_1 s0_0 x1001_1 x1002_1 = some (r1, r2, r3)) ∧ Aside0 (kq ≤ k) ∧ Aside0 (Kd.R k54 54 w' w.heap.size (fun _ => True) v3 x3_1) ∧ Aside0 (IsS66 w0 w' g s0_0 x1001_1 x1002_1) ∧ Aside0 (KeepBut w w' g none) ∧ Aside0 (Below w0.heap.size w0 w'))
 case atStart => exact ⟨(y117), (t123), (t124), (t125), zK71, H', ⟨Nat.le_refl _⟩, ⟨by (with_reducible repeat (first | apply zl | apply zk | apply zm)); exact HO119.out⟩, ⟨zH13⟩, ⟨zH24⟩, ⟨zH23⟩⟩
 case round =>
  clear H'
  obtain ⟨x3_1, x4_1, x1001_1, x1002_1, rfl, HA, HK1, HO_3, HI0, HK, HB⟩ := hrel
  cases gk with
  | zero => exact absurd HA.out (by simp [spec_l00Src_cartActs.l0])
  | succ k1 =>
   have H := HA.out
   clear HA
   simp only [spec_l00Src_cartActs.l0] at H
   by_cases c8 : x4_1 > 0
   rotate_left
   ·rw [if_neg c8] at H
    have c8b0 : decide (0 < x4_1) = false := decide_eq_false c8
    clear c8
    simp only [Option.some.injEq, Prod.mk.injEq] at H
    obtain ⟨rfl, rfl, rfl⟩ := H
    go_wp2
    go_ret
    exact ⟨_, zH33, by (with_reducible repeat (first | apply zl | apply zk | apply zm)); exact HO_3.out, zH13, zH23, zH24⟩

   rw [if_pos c8] at H
   have c8b0 : decide (0 < x4_1) = true := decide_eq_true c8
   clear c8
   replace H := Option.bind_eq_some_iff.mp H
   obtain ⟨⟨t126, t127, t128⟩, A90, H⟩ := H
   replace H : ((spec_l00Src_next.f s0_0 t127 t128 4).bind fun bt129 => ((spec_l00Src_next.f s0_0 bt129.2.1 bt129.2.2 9).bind fun bt132 => ((spec_l00Src_next.f s0_0 bt132.2.1 bt132.2.2 20).bind fun bt135 => ((spec_l00Src_chance.f s0_0 bt135.2.1 bt135.2.2 12).bind fun bt139 => (if bt139.1 = true then ((spec_l00Src_next.f s0_0 bt139.2.1 bt139.2.2 6).bind fun bt142 => ((some (([0, 1000000, 1000001] : List Int) : List Int)).bind fun y145 => ((spec_l00Src_next.f s0_0 bt142.2.1 bt142.2.2 3).bind fun bt148 => (if 0 ≤ bt148.1 then (if bt148.1 < (y145.length : Int) then ((some (([0, 100000, 1] : List Int) : List Int)).bind fun y152 => ((spec_l00Src_next.f s0_0 bt148.2.1 bt148.2.2 3).bind fun bt155 => (if 0 ≤ bt155.1 then (if bt155.1 < (y152.length : Int) then ((some (([0, (-1), 10000, 10001] : List Int) : List Int)).bind fun y159 => ((spec_l00Src_next.f s0_0 bt155.2.1 bt155.2.2 4).bind fun bt162 => (if 0 ≤ bt162.1 then (if bt162.1 < (y159.length : Int) then (if x3_1.length < 4398046511104 then (spec_l00Src_cartActs.l0 k1 (x3_1 ++ [(⟨bt142.1, rd y145 bt148.1, rd y152 bt155.1, rd y159 bt162.1⟩ : S54)]) (wrap64 (x4_1 - 1)) s0_0 bt162.2.1 bt162.2.2) else (none)) else (none)) else (none)))) else (none)) else (none)))) else (none)) else (none))))) else (if x3_1.length < 4398046511104 then (spec_l00Src_cartActs.l0 k1 (x3_1 ++ [(⟨wrap64 (1 + t126), wrap64 (1 + bt129.1), wrap64 (1 + bt132.1), wrap64 (1 + bt135.1)⟩ : S54)]) (wrap64 (x4_1 - 1)) s0_0 bt139.2.1 bt139.2.2) else (none))))))) = some (r1, r2, r3) := H
   have A9 := za A90
   clear A90
   replace H := Option.bind_eq_some_iff.mp H
   obtain ⟨⟨t129, t130, t131⟩, A100, H⟩ := H
   replace H : ((spec_l00Src_next.f s0_0 t130 t131 9).bind fun bt132 => ((spec_l00Src_next.f s0_0 bt132.2.1 bt132.2.2 20).bind fun bt135 => ((spec_l00Src_chance.f s0_0 bt135.2.1 bt135.2.2 12).bind fun bt139 => (if bt139.1 = true then ((spec_l00Src_next.f s0_0 bt139.2.1 bt139.2.2 6).bind fun bt142 => ((some (([0, 1000000, 1000001] : List Int) : List Int)).bind fun y145 => ((spec_l00Src_next.f s0_0 bt142.2.1 bt142.2.2 3).bind fun bt148 => (if 0 ≤ bt148.1 then (if bt148.1 < (y145.length : Int) then ((some (([0, 100000, 1] : List Int) : List Int)).bind fun y152 => ((spec_l00Src_next.f s0_0 bt148.2.1 bt148.2.2 3).bind fun bt155 => (if 0 ≤ bt155.1 then (if bt155.1 < (y152.length : Int) then ((some (([0, (-1), 10000, 10001] : List Int) : List Int)).bind fun y159 => ((spec_l00Src_next.f s0_0 bt155.2.1 bt155.2.2 4).bind fun bt162 => (if 0 ≤ bt162.1 then (if bt162.1 < (y159.length : Int) then (if x3_1.length < 4398046511104 then (spec_l00Src_cartActs.l0 k1 (x3_1 ++ [(⟨bt142.1, rd y145 bt148.1, rd y152 bt155.1, rd y159 bt162.1⟩ : S54)]) (wrap64 (x4_1 - 1)) s0_0 bt162.2.1 bt162.2.2) else (none)) else (none)) else (none)))) else (none)) else (none)))) else (none)) else (none))))) else (if x3_1.length < 4398046511104 then (spec_l00Src_cartActs.l0 k1 (x3_1 ++ [(⟨wrap64 (1 + t126), wrap64 (1 + t129), wrap64 (1 + bt132.1), wrap64 (1 + bt135.1)⟩ : S54)]) (wrap64 (x4_1 - 1)) s0_0 bt139.2.1 bt139.2.2) else (none)))))) = some (r1, r2, r3) := H
   have A10 := za A100
   clear A100
   replace H := Option.bind_eq_some_iff.mp H
   obtain ⟨⟨t132, t133, t134⟩, A110, H⟩ := H
   replace H : ((spec_l00Src_next.f s0_0 t133 t134 20).bind fun bt135 => ((spec_l00Src_chance.f s0_0 bt135.2.1 bt135.2.2 12).bind fun bt139 => (if bt139.1 = true then ((spec_l00Src_next.f s0_0 bt139.2.1 bt139.2.2 6).bind fun bt142 => ((some (([0, 1000000, 1000001] : List Int) : List Int)).bind fun y145 => ((spec_l00Src_next.f s0_0 bt142.2.1 bt142.2.2 3).bind fun bt148 => (if 0 ≤ bt148.1 then (if bt148.1 < (y145.length : Int) then ((some (([0, 100000, 1] : List Int) : List Int)).bind fun y152 => ((spec_l00Src_next.f s0_0 bt148.2.1 bt148.2.2 3).bind fun bt155 => (if 0 ≤ bt155.1 then (if bt155.1 < (y152.length : Int) then ((some (([0, (-1), 10000, 10001] : List Int) : List Int)).bind fun y159 => ((spec_l00Src_next.f s0_0 bt155.2.1 bt155.2.2 4).bind fun bt162 => (if 0 ≤ bt162.1 then (if bt162.1 < (y159.length : Int) then (if x3_1.length < 4398046511104 then (spec_l00Src_cartActs.l0 k1 (x3_1 ++ [(⟨bt142.1, rd y145 bt148.1, rd y152 bt155.1, rd y159 bt162.1⟩ : S54)]) (wrap64 (x4_1 - 1)) s0_0 bt162.2.1 bt162.2.2) else (none)) else (none)) else (none)))) else (none)) else (none)))) else (none)) else (none))))) else (if x3_1.length < 4398046511104 then (spec_l00Src_cartActs.l0 k1 (x3_1 ++ [(⟨wrap64 (1 + t126), wrap64 (1 + t129), wrap64 (1 + t132), wrap64 (1 + bt135.1)⟩ : S54)]) (wrap64 (x4_1 - 1)) s0_0 bt139.2.1 bt139.2.2) else (none))))) = some (r1, r2, r3) := H
   have A11 := za A110
   clear A110
   replace H := Option.bind_eq_some_iff.mp H
   obtain ⟨⟨t135, t136, t137⟩, A120, H⟩ := H
   replace H : ((spec_l00Src_chance.f s0_0 t136 t137 12).bind fun bt139 => (if bt139.1 = true then ((spec_l00Src_next.f s0_0 bt139.2.1 bt139.2.2 6).bind fun bt142 => ((some (([0, 1000000, 1000001] : List Int) : List Int)).bind fun y145 => ((spec_l00Src_next.f s0_0 bt142.2.1 bt142.2.2 3).bind fun bt148 => (if 0 ≤ bt148.1 then (if bt148.1 < (y145.length : Int) then ((some (([0, 100000, 1] : List Int) : List Int)).bind fun y152 => ((spec_l00Src_next.f s0_0 bt148.2.1 bt148.2.2 3).bind fun bt155 => (if 0 ≤ bt155.1 then (if bt155.1 < (y152.length : Int) then ((some (([0, (-1), 10000, 10001] : List Int) : List Int)).bind fun y159 => ((spec_l00Src_next.f s0_0 bt155.2.1 bt155.2.2 4).bind fun bt162 => (if 0 ≤ bt162.1 then (if bt162.1 < (y159.length : Int) then (if x3_1.length < 4398046511104 then (spec_l00Src_cartActs.l0 k1 (x3_1 ++ [(⟨bt142.1, rd y145 bt148.1, rd y152 bt155.1, rd y159 bt162.1⟩ : S54)]) (wrap64 (x4_1 - 1)) s0_0 bt162.2.1 bt162.2.2) else (none)) else (none)) else (none)))) else (none)) else (none)))) else (none)) else (none))))) else (if x3_1.length < 4398046511104 then (spec_l00Src_cartActs.l0 k1 (x3_1 ++ [(⟨wrap64 (1 + t126), wrap64 (1 + t129), wrap64 (1 + t132), wrap64 (1 + t135)⟩ : S54)]) (wrap64 (x4_1 - 1)) s0_0 bt139.2.1 bt139.2.2) else (none)))) = some (r1, r2, r3) := H
   have A12 := za A120
   clear A120
   replace H := Option.bind_eq_some_iff.mp H
   obtain ⟨⟨t139, t140, t141⟩, A130, H⟩ := H
   replace H : (if t139 = true then ((spec_l00Src_next.f s0_0 t140 t141 6).bind fun bt142 => ((some (([0, 1000000, 1000001] : List Int) : List Int)).bind fun y145 => ((spec_l00Src_next.f s0_0 bt142.2.1 bt142.2.2 3).bind fun bt148 => (if 0 ≤ bt148.1 then (if bt148.1 < (y145.length : Int) then ((some (([0, 100000, 1] : List Int) : List Int)).bind fun y152 => ((spec_l00Src_next.f s0_0 bt148.2.1 bt148.2.2 3).bind fun bt155 => (if 0 ≤ bt155.1 then (if bt155.1 < (y152.length : Int) then ((some (([0, (-1), 10000, 10001] : List Int) : List Int)).bind fun y159 => ((spec_l00Src_next.f s0_0 bt155.2.1 bt155.2.2 4).bind fun bt162 => (if 0 ≤ bt162.1 then (if bt162.1 < (y159.length : Int) then (if x3_1.length < 4398046511104 then (spec_l00Src_cartActs.l0 k1 (x3_1 ++ [(⟨bt142.1, rd y145 bt148.1, rd y152 bt155.1, rd y159 bt162.1⟩ : S54)]) (wrap64 (x4_1 - 1)) s0_0 bt162.2.1 bt162.2.2) else (none)) else (none)) else (none)))) else (none)) else (none)))) else (none)) else (none))))) else (if x3_1.length < 4398046511104 then (spec_l00Src_cartActs.l0 k1 (x3_1 ++ [(⟨wrap64 (1 + t126), wrap64 (1 + t129), wrap64 (1 + t132), wrap64 (1 + t135)⟩ : S54)]) (wrap64 (x4_1 - 1)) s0_0 t140 t141) else (none))) = some (r1, r2, r3) := H
   have A13 := za A130
   clear A130
   by_cases c14 : t139 = true
   rotate_left
   ·replace c14 := Bool.eq_false_iff.mpr c14
    subst c14
    have H1 : (if x3_1.length < 4398046511104 then (spec_l00Src_cartActs.l0 k1 (x3_1 ++ [(⟨wrap64 (1 + t126), wrap64 (1 + t129), wrap64 (1 + t132), wrap64 (1 + t135)⟩ : S54)]) (wrap64 (x4_1 - 1)) s0_0 t140 t141) else (none)) = some (r1, r2, r3) := by rw [if_neg (show ¬ (false = true) by decide)] at H; exact H
    clear H
    have H := H1
    clear H1
    by_cases c58 : x3_1.length < 4398046511104
    rotate_left
    ·rw [if_neg c58] at H
     exact absurd H (by simp)
    rw [if_pos c58] at H
    have LMc58 := za c58
    clear c58
    obtain ⟨y169, hy169⟩ : ∃ y_ : List (S54), y_ = (x3_1 ++ [(⟨wrap64 (1 + t126), wrap64 (1 + t129), wrap64 (1 + t132), wrap64 (1 + t135)⟩ : S54)]) := ⟨_, rfl⟩
    replace H : (spec_l00Src_cartActs.l0 k1 y169 (wrap64 (x4_1 - 1)) s0_0 t140 t141) = some (r1, r2, r3) := by first | (rw [hy169]; with_reducible exact H) | (have H2_ := (Option.bind_some _ _).symm.trans H; rw [hy169]; with_reducible exact H2_) | (have H2_ := (Option.bind_some _ _).symm.trans H; with_reducible exact H2_) | with_reducible exact H | (rw [hy169]; exact H) | exact H
    have Ny169 := za hy169
    clear hy169
    have H' := za H
    clear H
    go_wp2_with (first | ((with_reducible refine gate_callee (f := 20) rfl ?_); refine goesL_ (some 17) rfl rfl Try.func20 zG63 rfl #[.pointer (some ⟨g, 0, none⟩), .int .i64 4] rfl zG54 ?_; (with_reducible refine (spec_l00Src_next.calls g s0_0 x1001_1 x1002_1 4 t126 t127 t128 w0 _ ?side1 ?side2 A9.out).mono ?_); (case side1 => exact zH15); (case side2 => exact zH26); rintro e w59 ⟨rfl, hi, hb, hk⟩; refine ⟨_, rfl, ?_⟩; have n_ := zA_ (za (zn (zw (IsS66.apart (show IsS66 w0 _ g s0_0 x1001_1 x1002_1 from by repeat (first | (with_reducible first | exact HI0.out | apply IsS66.alloc | apply IsS66.drewN | apply IsS66.drew | apply IsS66.set_1 | apply IsS66.set_2) | exact HI0.out)) zG62 zG64) hk (fun _ h => h.2)) (fun _ h => h.1))) (zA_ (za (zv zG55 hk (.inl rfl))) (zA_ (za (hb)) (za (hi)))); clear HO_3 HK HB HI0; obtain ⟨HO_3, HK, HB, HI0⟩ := n_; (try clear hb); (try clear hk); (try clear hi)) | ((with_reducible refine gate_callee (f := 20) rfl ?_); refine goesL_ (some 20) rfl rfl Try.func20 zG63 rfl #[.pointer (some ⟨g, 0, none⟩), .int .i64 4] rfl zG54 ?_; (with_reducible refine (spec_l00Src_next.calls g s0_0 t127 t128 4 t129 t130 t131 w0 _ ?side1 ?side2 A10.out).mono ?_); (case side1 => exact zH15); (case side2 => exact zH26); rintro e w60 ⟨rfl, hi, hb, hk⟩; refine ⟨_, rfl, ?_⟩; have n_ := zA_ (za (zn (zw (IsS66.apart (show IsS66 w0 _ g s0_0 t127 t128 from by repeat (first | (with_reducible first | exact HI0.out | apply IsS66.alloc | apply IsS66.drewN | apply IsS66.drew | apply IsS66.set_1 | apply IsS66.set_2) | exact HI0.out)) zG62 zG64) hk (fun _ h => h.2)) (fun _ h => h.1))) (zA_ (za (zv zG55 hk (.inl rfl))) (zA_ (za (hb)) (za (hi)))); clear HO_3 HK HB HI0; obtain ⟨HO_3, HK, HB, HI0⟩ := n_; (try clear hb); (try clear hk); (try clear hi)) | ((with_reducible refine gate_callee (f := 20) rfl ?_); refine goesL_ (some 23) rfl rfl Try.func20 zG63 rfl #[.pointer (some ⟨g, 0, none⟩), .int .i64 9] rfl zG54 ?_; (with_reducible refine (spec_l00Src_next.calls g s0_0 t130 t131 9 t132 t133 t134 w0 _ ?side1 ?side2 A11.out).mono ?_); (case side1 => exact zH15); (case side2 => exact zH26); rintro e w61 ⟨rfl, hi, hb, hk⟩; refine ⟨_, rfl, ?_⟩; have n_ := zA_ (za (zn (zw (IsS66.apart (show IsS66 w0 _ g s0_0 t130 t131 from by repeat (first | (with_reducible first | exact HI0.out | apply IsS66.alloc | apply IsS66.drewN | apply IsS66.drew | apply IsS66.set_1 | apply IsS66.set_2) | exact HI0.out)) zG62 zG64) hk (fun _ h => h.2)) (fun _ h => h.1))) (zA_ (za (zv zG55 hk (.inl rfl))) (zA_ (za (hb)) (za (hi)))); clear HO_3 HK HB HI0; obtain ⟨HO_3, HK, HB, HI0⟩ := n_; (try clear hb); (try clear hk); (try clear hi)) | ((with_reducible refine gate_callee (f := 20) rfl ?_); refine goesL_ (some 26) rfl rfl Try.func20 zG63 rfl #[.pointer (some ⟨g, 0, none⟩), .int .i64 20] rfl zG54 ?_; (with_reducible refine (spec_l00Src_next.calls g s0_0 t133 t134 20 t135 t136 t137 w0 _ ?side1 ?side2 A12.out).mono ?_); (case side1 => exact zH15); (case side2 => exact zH26); rintro e w62 ⟨rfl, hi, hb, hk⟩; refine ⟨_, rfl, ?_⟩; have n_ := zA_ (za (zn (zw (IsS66.apart (show IsS66 w0 _ g s0_0 t133 t134 from by repeat (first | (with_reducible first | exact HI0.out | apply IsS66.alloc | apply IsS66.drewN | apply IsS66.drew | apply IsS66.set_1 | apply IsS66.set_2) | exact HI0.out)) zG62 zG64) hk (fun _ h => h.2)) (fun _ h => h.1))) (zA_ (za (zv zG55 hk (.inl rfl))) (zA_ (za (hb)) (za (hi)))); clear HO_3 HK HB HI0; obtain ⟨HO_3, HK, HB, HI0⟩ := n_; (try clear hb); (try clear hk); (try clear hi)) | ((with_reducible refine gate_dst (N := 5) rfl ?_); refine box_event ?hg (N := 5) ?hd (cs := #[.int .i64 0, .int .i64 0, .int .i64 0, .int .i64 0]) (t := 54) ?hr ?_; (case hd => rfl); (case hg => rfl); (case hr => exact zH37); intro gb138 hg w63 hbox hb; have n_ := zA_ (za (zt (zn (zan zG62 gb138 (Nat.le_of_eq hg.symm)) (fun _ h_ => h_.2)) hb)) (zA_ (za (IsS66.below zK49 hb)) (zA_ (za (zv zG55 (zap hb g none) (.inl rfl))) (zA_ (za (zp zK54 hb)) (zA_ (za (hbox)) (zA_ (zN1 w.heap.size hg (keep_size (w := w) (g := g) (row := none) zG55)) (zA_ (za ((Nat.le_trans HW0.out (by rw [hg]; exact (keep_size (w := w) (g := g) (row := none) zG55) : w.heap.size ≤ gb138) : w0.heap.size ≤ gb138))) (zN2 hg (IsS66.lt (show IsS66 w0 _ g s0_0 t136 t137 from by repeat (first | (with_reducible first | exact HI0.out | apply IsS66.alloc | apply IsS66.drewN | apply IsS66.drew | apply IsS66.set_1 | apply IsS66.set_2) | exact HI0.out)))))))))); clear HO_3 HI0 HK HB; obtain ⟨HO_3, HI0, HK, HB, BK138, GW138, GE138, NB0_138, NB138_0⟩ := n_; clear hb hbox hg; have hnb64 := NB138_0.out; have hnc64 := NB0_138.out; obtain ⟨hcz65_0, hcz65_1, hcz65_2, hcz65_3, hfz65_0, hfz65_1, hfz65_2, hfz65_3⟩ := zB4 BK138.out) | ((with_reducible refine gate_callee (f := 35) rfl ?_); refine goesL_ (some 30) rfl rfl Try.func35 zG63 rfl #[.pointer (some ⟨g, 0, none⟩), .int .i64 12] rfl zG54 ?_; (with_reducible refine (spec_l00Src_chance.calls g s0_0 t136 t137 12 false t140 t141 w0 _ ?side1 ?side2 A13.out).mono ?_); (case side1 => exact zH8); (case side2 => exact zH18); rintro e w66 ⟨rfl, hi, hb, hk⟩; refine ⟨_, rfl, ?_⟩; have n_ := zA_ (za (zn (zw (IsS66.apart (show IsS66 w0 _ g s0_0 t136 t137 from by repeat (first | (with_reducible first | exact HI0.out | apply IsS66.alloc | apply IsS66.drewN | apply IsS66.drew | apply IsS66.set_1 | apply IsS66.set_2 | refine IsS66.far ?_ (IsS66.ne_blk HI0.out BK138.out zG64) _ | refine IsS66.far ?_ NB0_138.out _) | exact HI0.out)) zK41 zG64) hk (fun _ h => h.2)) (fun _ h => h.1))) (zA_ (za (zas hk (g' := gb138) (o := .cells #[.int .i64 (wrap64 (1 + t126)), .int .i64 (wrap64 (1 + t129)), .int .i64 (wrap64 (1 + t132)), .int .i64 (wrap64 (1 + t135))] 54 (0, 0)) zK39 NB138_0.out (by simp))) (zA_ (za (zv zG53 hk (.inl rfl))) (zA_ (za (hb)) (za (hi))))); clear HO_3 BK138 HK HB HI0; obtain ⟨HO_3, BK138, HK, HB, HI0⟩ := n_; (try clear hb); (try clear hk); (try clear hi); obtain ⟨hcz67_0, hcz67_1, hcz67_2, hcz67_3, hfz67_0, hfz67_1, hfz67_2, hfz67_3⟩ := zB4 BK138.out) | ((with_reducible refine gate_builtin (b := .append) (xs := #[.tmp 49, .tmp 51]) rfl ?_); at_builtin; refine Kd.R_append k54 w.heap.size rfl (.tmp 49) (.tmp 51) 23 54 (.agg #[(.int .i64 0), (.int .i64 0), (.int .i64 0), (.int .i64 0)]) 32 rfl Try.underlying23 info54 rfl zG64 (by omega) u3 x3_1 (⟨wrap64 (1 + t126), wrap64 (1 + t129), wrap64 (1 + t132), wrap64 (1 + t135)⟩ : S54) [.int .i64 (wrap64 (1 + t126)), .int .i64 (wrap64 (1 + t129)), .int .i64 (wrap64 (1 + t132)), .int .i64 (wrap64 (1 + t135))] (fun k_ => k_ ≠ gb138) (fun _ => False) rfl rfl ?aP (fun _ hk => hk.elim) ?aF ?aO (Below.refl _ _) ?aS ?aL ?_; (case aP => exact k54_mkM _ _ _ (⟨wrap64 (1 + t126), wrap64 (1 + t129), wrap64 (1 + t132), wrap64 (1 + t135)⟩ : S54)); (case aF => exact (fun k_ hk => Kd.freshB (g := gb138) (o := .cells #[.int .i64 (wrap64 (1 + t126)), .int .i64 (wrap64 (1 + t129)), .int .i64 (wrap64 (1 + t132)), .int .i64 (wrap64 (1 + t135))] 54 (0, 0)) zG61 k_ hk)); (case aO => exact zG62); (case aS => exact (keep_size (w := w) (g := g) (row := none) zG53)); (case aL => have := LMc58.out; omega); intro v170 w68 ho hb hg hat; rw [← Ny169.out] at ho; have n_ := zA_ (za (IsS66.grown (show IsS66 w0 _ g s0_0 t140 t141 from by repeat (first | (with_reducible first | exact HI0.out | apply IsS66.alloc | apply IsS66.drewN | apply IsS66.drew | apply IsS66.set_1 | apply IsS66.set_2 | refine IsS66.far ?_ (IsS66.ne_blk HI0.out BK138.out zG64) _ | refine IsS66.far ?_ NB0_138.out _) | exact HI0.out)) hg (IsS66.own_ne HI0.out HO_3.out zG64))) (zA_ (za (zar (g := gb138) (o := .cells #[.int .i64 (wrap64 (1 + t126)), .int .i64 (wrap64 (1 + t129)), .int .i64 (wrap64 (1 + t132)), .int .i64 (wrap64 (1 + t135))] 54 (0, 0)) zG61 hg (Kd.R_away HO_3.out (fun _ hk => hk)))) (zA_ (za (below_weaken zK51 HL.out hb)) (zA_ (za (zv zG53 (KeepBut.of_grown hg g) (Kd.R_base2 HO_3.out))) (za (ho))))); clear HI0 BK138 HB HK HO_3; obtain ⟨HI0, BK138, HB, HK, HO171⟩ := n_; clear ho hb hg hat))
    go_roundg k1
    case measure => have := HK1.out; omega
    case rel => exact ⟨(y169), (wrap64 (x4_1 - 1)), (t140), (t141), zK71, H', ⟨by have := HK1.out; omega⟩, ⟨by (with_reducible repeat (first | apply zl | apply zk | apply zm)); exact zn HO171.out (fun _ hk => trivial)⟩, ⟨zH7⟩, ⟨zH14⟩, ⟨zH16⟩⟩
   subst c14
   have H1 : ((spec_l00Src_next.f s0_0 t140 t141 6).bind fun bt142 => ((some (([0, 1000000, 1000001] : List Int) : List Int)).bind fun y145 => ((spec_l00Src_next.f s0_0 bt142.2.1 bt142.2.2 3).bind fun bt148 => (if 0 ≤ bt148.1 then (if bt148.1 < (y145.length : Int) then ((some (([0, 100000, 1] : List Int) : List Int)).bind fun y152 => ((spec_l00Src_next.f s0_0 bt148.2.1 bt148.2.2 3).bind fun bt155 => (if 0 ≤ bt155.1 then (if bt155.1 < (y152.length : Int) then ((some (([0, (-1), 10000, 10001] : List Int) : List Int)).bind fun y159 => ((spec_l00Src_next.f s0_0 bt155.2.1 bt155.2.2 4).bind fun bt162 => (if 0 ≤ bt162.1 then (if bt162.1 < (y159.length : Int) then (if x3_1.length < 4398046511104 then (spec_l00Src_cartActs.l0 k1 (x3_1 ++ [(⟨bt142.1, rd y145 bt148.1, rd y152 bt155.1, rd y159 bt162.1⟩ : S54)]) (wrap64 (x4_1 - 1)) s0_0 bt162.2.1 bt162.2.2) else (none)) else (none)) else (none)))) else (none)) else (none)))) else (none)) else (none))))) = some (r1, r2, r3) := by rw [if_pos rfl] at H; exact H
   clear H
   have H := H1
   clear H1
   replace H := Option.bind_eq_some_iff.mp H
   obtain ⟨⟨t142, t143, t144⟩, A150, H⟩ := H
   replace H : ((some (([0, 1000000, 1000001] : List Int) : List Int)).bind fun y145 => ((spec_l00Src_next.f s0_0 t143 t144 3).bind fun bt148 => (if 0 ≤ bt148.1 then (if bt148.1 < (y145.length : Int) then ((some (([0, 100000, 1] : List Int) : List Int)).bind fun y152 => ((spec_l00Src_next.f s0_0 bt148.2.1 bt148.2.2 3).bind fun bt155 => (if 0 ≤ bt155.1 then (if bt155.1 < (y152.length : Int) then ((some (([0, (-1), 10000, 10001] : List Int) : List Int)).bind fun y159 => ((spec_l00Src_next.f s0_0 bt155.2.1 bt155.2.2 4).bind fun bt162 => (if 0 ≤ bt162.1 then (if bt162.1 < (y159.length : Int) then (if x3_1.length < 4398046511104 then (spec_l00Src_cartActs.l0 k1 (x3_1 ++ [(⟨t142, rd y145 bt148.1, rd y152 bt155.1, rd y159 bt162.1⟩ : S54)]) (wrap64 (x4_1 - 1)) s0_0 bt162.2.1 bt162.2.2) else (none)) else (none)) else (none)))) else (none)) else (none)))) else (none)) else (none)))) = some (r1, r2, r3) := H
   have A15 := za A150
   clear A150
   obtain ⟨y145, hy145⟩ : ∃ y_ : List Int, y_ = (([0, 1000000, 1000001] : List Int)) := ⟨_, rfl⟩
   replace H : ((spec_l00Src_next.f s0_0 t143 t144 3).bind fun bt148 => (if 0 ≤ bt148.1 then (if bt148.1 < (y145.length : Int) then ((some (([0, 100000, 1] : List Int) : List Int)).bind fun y152 => ((spec_l00Src_next.f s0_0 bt148.2.1 bt148.2.2 3).bind fun bt155 => (if 0 ≤ bt155.1 then (if bt155.1 < (y152.length : Int) then ((some (([0, (-1), 10000, 10001] : List Int) : List Int)).bind fun y159 => ((spec_l00Src_next.f s0_0 bt155.2.1 bt155.2.2 4).bind fun bt162 => (if 0 ≤ bt162.1 then (if bt162.1 < (y159.length : Int) then (if x3_1.length < 4398046511104 then (spec_l00Src_cartActs.l0 k1 (x3_1 ++ [(⟨t142, rd y145 bt148.1, rd y152 bt155.1, rd y159 bt162.1⟩ : S54)]) (wrap64 (x4_1 - 1)) s0_0 bt162.2.1 bt162.2.2) else (none)) else (none)) else (none)))) else (none)) else (none)))) else (none)) else (none))) = some (r1, r2, r3) := by first | (rw [hy145]; with_reducible exact H) | (have H2_ := (Option.bind_some _ _).symm.trans H; rw [hy145]; with_reducible exact H2_) | (have H2_ := (Option.bind_some _ _).symm.trans H; with_reducible exact H2_) | with_reducible exact H | (rw [hy145]; exact H) | exact H
   have Ny145 := za hy145
   clear hy145
   replace H := Option.bind_eq_some_iff.mp H
   obtain ⟨⟨t148, t149, t150⟩, A160, H⟩ := H
   replace H : (if 0 ≤ t148 then (if t148 < (y145.length : Int) then ((some (([0, 100000, 1] : List Int) : List Int)).bind fun y152 => ((spec_l00Src_next.f s0_0 t149 t150 3).bind fun bt155 => (if 0 ≤ bt155.1 then (if bt155.1 < (y152.length : Int) then ((some (([0, (-1), 10000, 10001] : List Int) : List Int)).bind fun y159 => ((spec_l00Src_next.f s0_0 bt155.2.1 bt155.2.2 4).bind fun bt162 => (if 0 ≤ bt162.1 then (if bt162.1 < (y159.length : Int) then (if x3_1.length < 4398046511104 then (spec_l00Src_cartActs.l0 k1 (x3_1 ++ [(⟨t142, rd y145 t148, rd y152 bt155.1, rd y159 bt162.1⟩ : S54)]) (wrap64 (x4_1 - 1)) s0_0 bt162.2.1 bt162.2.2) else (none)) else (none)) else (none)))) else (none)) else (none)))) else (none)) else (none)) = some (r1, r2, r3) := H
   have A16 := za A160
   clear A160
   by_cases c17 : 0 ≤ t148
   rotate_left
   ·rw [if_neg c17] at H
    exact absurd H (by simp)
   rw [if_pos c17] at H
   have c17b0 := decide_eq_true c17
   clear c17
   by_cases c18 : t148 < (y145.length : Int)
   rotate_left
   ·rw [if_neg c18] at H
    exact absurd H (by simp)
   rw [if_pos c18] at H
   have c18b0 := decide_eq_true c18
   clear c18
   obtain ⟨y152, hy152⟩ : ∃ y_ : List Int, y_ = (([0, 100000, 1] : List Int)) := ⟨_, rfl⟩
   replace H : ((spec_l00Src_next.f s0_0 t149 t150 3).bind fun bt155 => (if 0 ≤ bt155.1 then (if bt155.1 < (y152.length : Int) then ((some (([0, (-1), 10000, 10001] : List Int) : List Int)).bind fun y159 => ((spec_l00Src_next.f s0_0 bt155.2.1 bt155.2.2 4).bind fun bt162 => (if 0 ≤ bt162.1 then (if bt162.1 < (y159.length : Int) then (if x3_1.length < 4398046511104 then (spec_l00Src_cartActs.l0 k1 (x3_1 ++ [(⟨t142, rd y145 t148, rd y152 bt155.1, rd y159 bt162.1⟩ : S54)]) (wrap64 (x4_1 - 1)) s0_0 bt162.2.1 bt162.2.2) else (none)) else (none)) else (none)))) else (none)) else (none))) = some (r1, r2, r3) := by first | (rw [hy152]; with_reducible exact H) | (have H2_ := (Option.bind_some _ _).symm.trans H; rw [hy152]; with_reducible exact H2_) | (have H2_ := (Option.bind_some _ _).symm.trans H; with_reducible exact H2_) | with_reducible exact H | (rw [hy152]; exact H) | exact H
   have Ny152 := za hy152
   clear hy152
   replace H := Option.bind_eq_some_iff.mp H
   obtain ⟨⟨t155, t156, t157⟩, A190, H⟩ := H
   replace H : (if 0 ≤ t155 then (if t155 < (y152.length : Int) then ((some (([0, (-1), 10000, 10001] : List Int) : List Int)).bind fun y159 => ((spec_l00Src_next.f s0_0 t156 t157 4).bind fun bt162 => (if 0 ≤ bt162.1 then (if bt162.1 < (y159.length : Int) then (if x3_1.length < 4398046511104 then (spec_l00Src_cartActs.l0 k1 (x3_1 ++ [(⟨t142, rd y145 t148, rd y152 t155, rd y159 bt162.1⟩ : S54)]) (wrap64 (x4_1 - 1)) s0_0 bt162.2.1 bt162.2.2) else (none)) else (none)) else (none)))) else (none)) else (none)) = some (r1, r2, r3) := H
   have A19 := za A190
   clear A190
   by_cases c20 : 0 ≤ t155
   rotate_left
   ·rw [if_neg c20] at H
    exact absurd H (by simp)
   rw [if_pos c20] at H
   have c20b0 := decide_eq_true c20
   clear c20
   by_cases c21 : t155 < (y152.length : Int)
   rotate_left
   ·rw [if_neg c21] at H
    exact absurd H (by simp)
   rw [if_pos c21] at H
   have c21b0 := decide_eq_true c21
   clear c21
   obtain ⟨y159, hy159⟩ : ∃ y_ : List Int, y_ = (([0, (-1), 10000, 10001] : List Int)) := ⟨_, rfl⟩
   replace H : ((spec_l00Src_next.f s0_0 t156 t157 4).bind fun bt162 => (if 0 ≤ bt162.1 then (if bt162.1 < (y159.length : Int) then (if x3_1.length < 4398046511104 then (spec_l00Src_cartActs.l0 k1 (x3_1 ++ [(⟨t142, rd y145 t148, rd y152 t155, rd y159 bt162.1⟩ : S54)]) (wrap64 (x4_1 - 1)) s0_0 bt162.2.1 bt162.2.2) else (none)) else (none)) else (none))) = some (r1, r2, r3) := by first | (rw [hy159]; with_reducible exact H) | (have H2_ := (Option.bind_some _ _).symm.trans H; rw [hy159]; with_reducible exact H2_) | (have H2_ := (Option.bind_some _ _).symm.trans H; with_reducible exact H2_) | with_reducible exact H | (rw [hy159]; exact H) | exact H
   have Ny159 := za hy159
   clear hy159
   replace H := Option.bind_eq_some_iff.mp H
   obtain ⟨⟨t162, t163, t164⟩, A220, H⟩ := H
   replace H : (if 0 ≤ t162 then (if t162 < (y159.length : Int) then (if x3_1.length < 4398046511104 then (spec_l00Src_cartActs.l0 k1 (x3_1 ++ [(⟨t142, rd y145 t148, rd y152 t155, rd y159 t162⟩ : S54)]) (wrap64 (x4_1 - 1)) s0_0 t163 t164) else (none)) else (none)) else (none)) = some (r1, r2, r3) := H
   have A22 := za A220
   clear A220
   by_cases c23 : 0 ≤ t162
   rotate_left
   ·rw [if_neg c23] at H
    exact absurd H (by simp)
   rw [if_pos c23] at H
   have c23b0 := decide_eq_true c23
   clear c23
   by_cases c24 : t162 < (y159.length : Int)
   rotate_left
   ·rw [if_neg c24] at H
    exact absurd H (by simp)
   rw [if_pos c24] at H
   have c24b0 := decide_eq_true c24
   clear c24
   by_cases c25 : x3_1.length < 4398046511104
   rotate_left
   ·rw [if_neg c25] at H
    exact absurd H (by simp)
   rw [if_pos c25] at H
   have LMc25 := za c25
   clear c25
   obtain ⟨y166, hy166⟩ : ∃ y_ : List (S54), y_ = (x3_1 ++ [(⟨t142, rd y145 t148, rd y152 t155, rd y159 t162⟩ : S54)]) := ⟨_, rfl⟩
   replace H : (spec_l00Src_cartActs.l0 k1 y166 (wrap64 (x4_1 - 1)) s0_0 t163 t164) = some (r1, r2, r3) := by first | (rw [hy166]; with_reducible exact H) | (have H2_ := (Option.bind_some _ _).symm.trans H; rw [hy166]; with_reducible exact H2_) | (have H2_ := (Option.bind_some _ _).symm.trans H; with_reducible exact H2_) | with_reducible exact H | (rw [hy166]; exact H) | exact H
   have Ny166 := za hy166
   clear hy166
   have H' := za H
   clear H
   try go_wp2_with (first | ((with_reducible refine gate_callee (f := 20) rfl ?_); refine goesL_ (some 17) rfl rfl Try.func20 zG63 rfl #[.pointer (some ⟨g, 0, none⟩), .int .i64 4] rfl zG54 ?_; (with_reducible refine (spec_l00Src_next.calls g s0_0 x1001_1 x1002_1 4 t126 t127 t128 w0 _ ?side1 ?side2 A9.out).mono ?_); (case side1 => exact zH15); (case side2 => exact zH26); rintro e w26 ⟨rfl, hi, hb, hk⟩; refine ⟨_, rfl, ?_⟩; have n_ := zA_ (za (zn (zw (IsS66.apart (show IsS66 w0 _ g s0_0 x1001_1 x1002_1 from by repeat (first | (with_reducible first | exact HI0.out | apply IsS66.alloc | apply IsS66.drewN | apply IsS66.drew | apply IsS66.set_1 | apply IsS66.set_2) | exact HI0.out)) zG62 zG64) hk (fun _ h => h.2)) (fun _ h => h.1))) (zA_ (za (zv zG55 hk (.inl rfl))) (zA_ (za (hb)) (za (hi)))); clear HO_3 HK HB HI0; obtain ⟨HO_3, HK, HB, HI0⟩ := n_; (try clear hb); (try clear hk); (try clear hi)) | ((with_reducible refine gate_callee (f := 20) rfl ?_); refine goesL_ (some 20) rfl rfl Try.func20 zG63 rfl #[.pointer (some ⟨g, 0, none⟩), .int .i64 4] rfl zG54 ?_; (with_reducible refine (spec_l00Src_next.calls g s0_0 t127 t128 4 t129 t130 t131 w0 _ ?side1 ?side2 A10.out).mono ?_); (case side1 => exact zH15); (case side2 => exact zH26); rintro e w27 ⟨rfl, hi, hb, hk⟩; refine ⟨_, rfl, ?_⟩; have n_ := zA_ (za (zn (zw (IsS66.apart (show IsS66 w0 _ g s0_0 t127 t128 from by repeat (first | (with_reducible first | exact HI0.out | apply IsS66.alloc | apply IsS66.drewN | apply IsS66.drew | apply IsS66.set_1 | apply IsS66.set_2) | exact HI0.out)) zG62 zG64) hk (fun _ h => h.2)) (fun _ h => h.1))) (zA_ (za (zv zG55 hk (.inl rfl))) (zA_ (za (hb)) (za (hi)))); clear HO_3 HK HB HI0; obtain ⟨HO_3, HK, HB, HI0⟩ := n_; (try clear hb); (try clear hk); (try clear hi)) | ((with_reducible refine gate_callee (f := 20) rfl ?_); refine goesL_ (some 23) rfl rfl Try.func20 zG63 rfl #[.pointer (some ⟨g, 0, none⟩), .int .i64 9] rfl zG54 ?_; (with_reducible refine (spec_l00Src_next.calls g s0_0 t130 t131 9 t132 t133 t134 w0 _ ?side1 ?side2 A11.out).mono ?_); (case side1 => exact zH15); (case side2 => exact zH26); rintro e w28 ⟨rfl, hi, hb, hk⟩; refine ⟨_, rfl, ?_⟩; have n_ := zA_ (za (zn (zw (IsS66.apart (show IsS66 w0 _ g s0_0 t130 t131 from by repeat (first | (with_reducible first | exact HI0.out | apply IsS66.alloc | apply IsS66.drewN | apply IsS66.drew | apply IsS66.set_1 | apply IsS66.set_2) | exact HI0.out)) zG62 zG64) hk (fun _ h => h.2)) (fun _ h => h.1))) (zA_ (za (zv zG55 hk (.inl rfl))) (zA_ (za (hb)) (za (hi)))); clear HO_3 HK HB HI0; obtain ⟨HO_3, HK, HB, HI0⟩ := n_; (try clear hb); (try clear hk); (try clear hi)) | ((with_reducible refine gate_callee (f := 20) rfl ?_); refine goesL_ (some 26) rfl rfl Try.func20 zG63 rfl #[.pointer (some ⟨g, 0, none⟩), .int .i64 20] rfl zG54 ?_; (with_reducible refine (spec_l00Src_next.calls g s0_0 t133 t134 20 t135 t136 t137 w0 _ ?side1 ?side2 A12.out).mono ?_); (case side1 => exact zH15); (case side2 => exact zH26); rintro e w29 ⟨rfl, hi, hb, hk⟩; refine ⟨_, rfl, ?_⟩; have n_ := zA_ (za (zn (zw (IsS66.apart (show IsS66 w0 _ g s0_0 t133 t134 from by repeat (first | (with_reducible first | exact HI0.out | apply IsS66.alloc | apply IsS66.drewN | apply IsS66.drew | apply IsS66.set_1 | apply IsS66.set_2) | exact HI0.out)) zG62 zG64) hk (fun _ h => h.2)) (fun _ h => h.1))) (zA_ (za (zv zG55 hk (.inl rfl))) (zA_ (za (hb)) (za (hi)))); clear HO_3 HK HB HI0; obtain ⟨HO_3, HK, HB, HI0⟩ := n_; (try clear hb); (try clear hk); (try clear hi)) | ((with_reducible refine gate_dst (N := 5) rfl ?_); refine box_event ?hg (N := 5) ?hd (cs := #[.int .i64 0, .int .i64 0, .int .i64 0, .int .i64 0]) (t := 54) ?hr ?_; (case hd => rfl); (case hg => rfl); (case hr => exact zH37); intro gb138 hg w30 hbox hb; have n_ := zA_ (za (zt (zn (zan zG62 gb138 (Nat.le_of_eq hg.symm)) (fun _ h_ => h_.2)) hb)) (zA_ (za (IsS66.below zK49 hb)) (zA_ (za (zv zG55 (zap hb g none) (.inl rfl))) (zA_ (za (zp zK54 hb)) (zA_ (za (hbox)) (zA_ (zN1 w.heap.size hg (keep_size (w := w) (g := g) (row := none) zG55)) (zA_ (za ((Nat.le_trans HW0.out (by rw [hg]; exact (keep_size (w := w) (g := g) (row := none) zG55) : w.heap.size ≤ gb138) : w0.heap.size ≤ gb138))) (zN2 hg (IsS66.lt (show IsS66 w0 _ g s0_0 t136 t137 from by repeat (first | (with_reducible first | exact HI0.out | apply IsS66.alloc | apply IsS66.drewN | apply IsS66.drew | apply IsS66.set_1 | apply IsS66.set_2) | exact HI0.out)))))))))); clear HO_3 HI0 HK HB; obtain ⟨HO_3, HI0, HK, HB, BK138, GW138, GE138, NB0_138, NB138_0⟩ := n_; clear hb hbox hg; have hnb31 := NB138_0.out; have hnc31 := NB0_138.out; obtain ⟨hcz32_0, hcz32_1, hcz32_2, hcz32_3, hfz32_0, hfz32_1, hfz32_2, hfz32_3⟩ := zB4 BK138.out) | ((with_reducible refine gate_callee (f := 35) rfl ?_); refine goesL_ (some 30) rfl rfl Try.func35 zG63 rfl #[.pointer (some ⟨g, 0, none⟩), .int .i64 12] rfl zG54 ?_; (with_reducible refine (spec_l00Src_chance.calls g s0_0 t136 t137 12 true t140 t141 w0 _ ?side1 ?side2 A13.out).mono ?_); (case side1 => exact zH8); (case side2 => exact zH18); rintro e w33 ⟨rfl, hi, hb, hk⟩; refine ⟨_, rfl, ?_⟩; have n_ := zA_ (za (zn (zw (IsS66.apart (show IsS66 w0 _ g s0_0 t136 t137 from by repeat (first | (with_reducible first | exact HI0.out | apply IsS66.alloc | apply IsS66.drewN | apply IsS66.drew | apply IsS66.set_1 | apply IsS66.set_2 | refine IsS66.far ?_ (IsS66.ne_blk HI0.out BK138.out zG64) _ | refine IsS66.far ?_ NB0_138.out _) | exact HI0.out)) zK41 zG64) hk (fun _ h => h.2)) (fun _ h => h.1))) (zA_ (za (zas hk (g' := gb138) (o := .cells #[.int .i64 (wrap64 (1 + t126)), .int .i64 (wrap64 (1 + t129)), .int .i64 (wrap64 (1 + t132)), .int .i64 (wrap64 (1 + t135))] 54 (0, 0)) zK39 NB138_0.out (by simp))) (zA_ (za (zv zG53 hk (.inl rfl))) (zA_ (za (hb)) (za (hi))))); clear HO_3 BK138 HK HB HI0; obtain ⟨HO_3, BK138, HK, HB, HI0⟩ := n_; (try clear hb); (try clear hk); (try clear hi)))
   have pi151 : (0 ≤ (t148 : Int)) = True := eq_true zO
   have qi151 : (t148 < (y145.length : Int)) = True := eq_true zO
   have pi158 : (0 ≤ (t155 : Int)) = True := eq_true zO
   have qi158 : (t155 < (y152.length : Int)) = True := eq_true zO
   have pi165 : (0 ≤ (t162 : Int)) = True := eq_true zO
   have qi165 : (t162 < (y159.length : Int)) = True := eq_true zO
   obtain ⟨n0_, n1_, n2_, n3_, n4_⟩ := zD5 (zm HO_3.out) (zj BK138.out) (IsS66.drew HI0.out) (keep_drew HK.out) (ze HB.out)
   clear HO_3 BK138 HI0 HK HB
   have HO_3 := n0_
   have BK138 := n1_
   have HI0 := n2_
   have HK := n3_
   have HB := n4_
   clear n0_ n1_ n2_ n3_ n4_
   refine start_ (n := 19) (S := fun w' => True) (ds := []) #[false, false, false, false, false, false, false, false, false, false, false, false, false, false, false, false, false, false, false] zG63 rfl rfl trivial (fun hHeld => ?_); refine with_tabW spec_l00Src_cartActs.tab7 spec_l00Src_cartActs.bits7 (fun HT_ HW_ => ?_)
   generalize w33.drew = w34 at HO_3 BK138 HI0 HK HB hHeld ⊢
   refine zP 0 31 #[true, false, false, false, false, false, false, false, false, false, false, false, false, false, false, false, false, false, false] HT_ ?_
   refine zP 3 34 #[true, false, false, true, false, false, false, false, false, false, false, false, false, false, false, false, false, false, false] HT_ ?_
   refine zP 8 39 #[true, false, false, true, false, false, false, false, true, false, false, false, false, false, false, false, false, false, false] HT_ ?_
   refine zP 13 44 #[true, false, false, true, false, false, false, false, true, false, false, false, false, true, false, false, false, false, false] HT_ ?_
   refine inv_at [1, 2, 4, 5, 6, 7, 9, 10, 11, 12, 14, 15, 16, 17, 18] (fun a0_ b a w' => ∃ (v146 : Value) (adz_v146 : Addr) (v153 : Value) (adz_v153 : Addr) (v160 : Value) (adz_v160 : Addr) (m5_ : Value) (m10_ : Value) (m15_ : Value), a = putSel a0_ b [(1, 32, .int .i64 t142), (2, 33, v146), (4, 35, .int .i64 t148), (5, 36, m5_), (6, 37, .int .i64 (rd y145 t148)), (7, 38, v153), (9, 40, .int .i64 t155), (10, 41, m10_), (11, 42, .int .i64 (rd y152 t155)), (12, 43, v160), (14, 45, .int .i64 t162), (15, 46, m15_), (16, 47, .int .i64 (rd y159 t162)), (17, 48, .agg #[.int .i64 t142, .int .i64 (rd y145 t148), .int .i64 (rd y152 t155), .int .i64 (rd y159 t162)])] ∧ (Kd.R k54 54 w' w.heap.size (fun k_ => k_ ≠ gb138) u3 x3_1) ∧ (b 18 = false → w'.heap[gb138]? = some (.cells #[.int .i64 (wrap64 (1 + t126)), .int .i64 (wrap64 (1 + t129)), .int .i64 (wrap64 (1 + t132)), .int .i64 (wrap64 (1 + t135))] 54 (0, 0))) ∧ (b 1 = false → IsS66 w0 w' g s0_0 t140 t141) ∧ (KeepBut w w' g none) ∧ (Below w0.heap.size w0 w') ∧ (b 1 = true → b 4 = false → IsS66 w0 w' g s0_0 t143 t144) ∧ (b 2 = true → Kd.R (Kd.int .i64) 3 w' w.heap.size (fun _ => True) v146 y145) ∧ (b 2 = true → ∃ c_, (v146 : Value) = .slice (some adz_v146) y145.length c_) ∧ (b 4 = true → b 9 = false → IsS66 w0 w' g s0_0 t149 t150) ∧ (b 7 = true → Kd.R (Kd.int .i64) 3 w' w.heap.size (fun _ => True) v153 y152) ∧ (b 7 = true → ∃ c_, (v153 : Value) = .slice (some adz_v153) y152.length c_) ∧ (b 9 = true → b 14 = false → IsS66 w0 w' g s0_0 t156 t157) ∧ (b 12 = true → Kd.R (Kd.int .i64) 3 w' w.heap.size (fun _ => True) v160 y159) ∧ (b 12 = true → ∃ c_, (v160 : Value) = .slice (some adz_v160) y159.length c_) ∧ (b 14 = true → IsS66 w0 w' g s0_0 t163 t164) ∧ (b 18 = true → w'.heap[gb138]? = some (.cells #[.int .i64 t142, .int .i64 (rd y145 t148), .int .i64 (rd y152 t155), .int .i64 (rd y159 t162)] 54 (0, 0))) ∧ (b 5 = true → (m5_ : Value) = .pointer (some (adz_v146.add (t148).toNat))) ∧ (b 10 = true → (m10_ : Value) = .pointer (some (adz_v153.add (t155).toNat))) ∧ (b 15 = true → (m15_ : Value) = .pointer (some (adz_v160.add (t162).toNat)))) HT_.out HW_.out zG63 zG63 ?_ ?_ ?_
   ·exact ⟨.bool false, ⟨0, 0, none⟩, .bool false, ⟨0, 0, none⟩, .bool false, ⟨0, 0, none⟩, .bool false, .bool false, .bool false, by simp only [putSel, Bool.false_eq_true, if_false], HO_3.out, fun _ => BK138.out, fun _ => HI0.out, HK.out, HB.out, fun h_ => absurd h_ zG64, fun h_ => absurd h_ zG64, fun h_ => absurd h_ zG64, fun h_ => absurd h_ zG64, fun h_ => absurd h_ zG64, fun h_ => absurd h_ zG64, fun h_ => absurd h_ zG64, fun h_ => absurd h_ zG64, fun h_ => absurd h_ zG64, fun h_ => absurd h_ zG64, fun h_ => absurd h_ zG64, fun h_ => absurd h_ zG64, fun h_ => absurd h_ zG64, fun h_ => absurd h_ zG64⟩
   ·skip
    clear BK138 HB HI0 HK HO_3
    refine steps_cons ?_ ?_
    ·rintro b a w' ⟨v146, adz_v146, v153, adz_v153, v160, adz_v160, m5_, m10_, m15_, ha, Q_HO_3, Q_BK138, Q_HI0, Q_HK, Q_HB, Q_HI0_e1, Q_HO147, Q_HA_HO147, Q_HI0_e4, Q_HO154, Q_HA_HO154, Q_HI0_e9, Q_HO161, Q_HA_HO161, Q_HI0_e14, Q_BK138_e18, Q_X5_, Q_X10_, Q_X15_⟩ hb_ hon hoff
     refine ⟨_, rfl, fun K hK => ?_⟩
     have e31 : a.tmps[31]? = some (.pointer (some ⟨g, 0, none⟩)) := by rw [ha]; exact (putSel_off rfl).trans rfl
     replace ha := za ha
     obtain ⟨HO_3, BK138, HI0, HK, HB⟩ := zD5 Q_HO_3 (Q_BK138 (hoff 18 zG63)) (Q_HI0 hb_) Q_HK Q_HB
     refine goes_ Try.func20 zG63 rfl #[.pointer (some ⟨g, 0, none⟩), .int .i64 6] (by rfl) rfl rfl (by first | (simp only [List.map_toArray, List.map_cons, List.map_nil, Act.eval, Array.getD_eq_getD_getElem?, Option.getD_some, e31]; done) | (simp only [List.map_toArray, List.map_cons, List.map_nil, Act.eval, Array.getD_eq_getD_getElem?, Option.getD_some, e31]; rfl)) ?_
     with_reducible refine (spec_l00Src_next.calls g s0_0 t140 t141 6 t142 t143 t144 w0 _ ?side1 ?side2 A15.out).mono ?_
     (case side1 => exact zH8)
     (case side2 => exact zH18)
     rintro e w35 ⟨rfl, hi, hb, hk⟩
     refine ⟨_, rfl, ?_⟩
     obtain ⟨n0_, n1_, n2_, n3_, n4_⟩ := zD5 (zn (zw (IsS66.apart (show IsS66 w0 _ g s0_0 t140 t141 from by repeat (first | (with_reducible first | exact HI0.out | apply IsS66.alloc | apply IsS66.drewN | apply IsS66.drew | apply IsS66.set_1 | apply IsS66.set_2 | refine IsS66.far ?_ (IsS66.ne_blk HI0.out BK138.out zG64) _ | refine IsS66.far ?_ NB0_138.out _) | exact HI0.out)) zG62 zG64) hk (fun _ h => h.2)) (fun _ h => h.1)) (zas hk (g' := gb138) (o := .cells #[.int .i64 (wrap64 (1 + t126)), .int .i64 (wrap64 (1 + t129)), .int .i64 (wrap64 (1 + t132)), .int .i64 (wrap64 (1 + t135))] 54 (0, 0)) zG61 NB138_0.out (by simp)) (zv zG53 hk (.inl rfl)) (hb) (hi)
     have z_HO147 := fun (h0_ : b 2 = true) => (show Kd.R (Kd.int .i64) 3 w35 w.heap.size (fun _ => True) v146 y145 from by first | exact (zn (zw (IsS66.apart (show IsS66 w0 _ g s0_0 t140 t141 from by repeat (first | (with_reducible first | exact HI0.out | apply IsS66.alloc | apply IsS66.drewN | apply IsS66.drew | apply IsS66.set_1 | apply IsS66.set_2 | refine IsS66.far ?_ (IsS66.ne_blk HI0.out BK138.out zG64) _ | refine IsS66.far ?_ NB0_138.out _) | exact HI0.out)) zK64 zG64) hk (fun _ h => h.2)) (fun _ h => h.1)) | exact zn (zn (zw (IsS66.apart (show IsS66 w0 _ g s0_0 t140 t141 from by repeat (first | (with_reducible first | exact HI0.out | apply IsS66.alloc | apply IsS66.drewN | apply IsS66.drew | apply IsS66.set_1 | apply IsS66.set_2 | refine IsS66.far ?_ (IsS66.ne_blk HI0.out BK138.out zG64) _ | refine IsS66.far ?_ NB0_138.out _) | exact HI0.out)) zK64 zG64) hk (fun _ h => h.2)) (fun _ h => h.1)) (fun _ h_ => by first | trivial | exact h_ | exact h_.1))
     have z_HO154 := fun (h0_ : b 7 = true) => (show Kd.R (Kd.int .i64) 3 w35 w.heap.size (fun _ => True) v153 y152 from by first | exact (zn (zw (IsS66.apart (show IsS66 w0 _ g s0_0 t140 t141 from by repeat (first | (with_reducible first | exact HI0.out | apply IsS66.alloc | apply IsS66.drewN | apply IsS66.drew | apply IsS66.set_1 | apply IsS66.set_2 | refine IsS66.far ?_ (IsS66.ne_blk HI0.out BK138.out zG64) _ | refine IsS66.far ?_ NB0_138.out _) | exact HI0.out)) zK65 zG64) hk (fun _ h => h.2)) (fun _ h => h.1)) | exact zn (zn (zw (IsS66.apart (show IsS66 w0 _ g s0_0 t140 t141 from by repeat (first | (with_reducible first | exact HI0.out | apply IsS66.alloc | apply IsS66.drewN | apply IsS66.drew | apply IsS66.set_1 | apply IsS66.set_2 | refine IsS66.far ?_ (IsS66.ne_blk HI0.out BK138.out zG64) _ | refine IsS66.far ?_ NB0_138.out _) | exact HI0.out)) zK65 zG64) hk (fun _ h => h.2)) (fun _ h => h.1)) (fun _ h_ => by first | trivial | exact h_ | exact h_.1))
     have z_HO161 := fun (h0_ : b 12 = true) => (show Kd.R (Kd.int .i64) 3 w35 w.heap.size (fun _ => True) v160 y159 from by first | exact (zn (zw (IsS66.apart (show IsS66 w0 _ g s0_0 t140 t141 from by repeat (first | (with_reducible first | exact HI0.out | apply IsS66.alloc | apply IsS66.drewN | apply IsS66.drew | apply IsS66.set_1 | apply IsS66.set_2 | refine IsS66.far ?_ (IsS66.ne_blk HI0.out BK138.out zG64) _ | refine IsS66.far ?_ NB0_138.out _) | exact HI0.out)) zK66 zG64) hk (fun _ h => h.2)) (fun _ h => h.1)) | exact zn (zn (zw (IsS66.apart (show IsS66 w0 _ g s0_0 t140 t141 from by repeat (first | (with_reducible first | exact HI0.out | apply IsS66.alloc | apply IsS66.drewN | apply IsS66.drew | apply IsS66.set_1 | apply IsS66.set_2 | refine IsS66.far ?_ (IsS66.ne_blk HI0.out BK138.out zG64) _ | refine IsS66.far ?_ NB0_138.out _) | exact HI0.out)) zK66 zG64) hk (fun _ h => h.2)) (fun _ h => h.1)) (fun _ h_ => by first | trivial | exact h_ | exact h_.1))
     clear HO_3
     clear BK138
     clear HK
     clear HB
     clear HI0
     have HO_3 := n0_
     have BK138 := n1_
     have HK := n2_
     have HB := n3_
     have HI0 := n4_
     clear n0_ n1_ n2_ n3_ n4_
     (try clear hb)
     (try clear hb2)
     (try clear hk)
     (try clear hi)
     refine hK.out _ _ ⟨v146, adz_v146, v153, adz_v153, v160, adz_v160, m5_, m10_, m15_, (by rw [ha.out]; exact putSel_upk 0 hb_ rfl rfl rfl), zG62, fun _ => zG61, fun h0_ => absurd ((up_self b 1).symm.trans h0_) zG64, zG53, zK51, fun _ _ => zK42, z_HO147, Q_HA_HO147, fun h0_ _ => absurd ((hoff 4 zG63).symm.trans h0_) zG64, z_HO154, Q_HA_HO154, fun h0_ _ => absurd ((hoff 9 zG63).symm.trans h0_) zG64, z_HO161, Q_HA_HO161, fun h0_ => absurd ((hoff 14 zG63).symm.trans h0_) zG64, fun h0_ => absurd ((hoff 18 zG63).symm.trans h0_) zG64, fun h0_ => absurd ((hoff 5 zG63).symm.trans h0_) zG64, fun h0_ => absurd ((hoff 10 zG63).symm.trans h0_) zG64, fun h0_ => absurd ((hoff 15 zG63).symm.trans h0_) zG64⟩
    refine steps_cons ?_ ?_
    ·rintro b a w' ⟨v146, adz_v146, v153, adz_v153, v160, adz_v160, m5_, m10_, m15_, ha, Q_HO_3, Q_BK138, Q_HI0, Q_HK, Q_HB, Q_HI0_e1, Q_HO147, Q_HA_HO147, Q_HI0_e4, Q_HO154, Q_HA_HO154, Q_HI0_e9, Q_HO161, Q_HA_HO161, Q_HI0_e14, Q_BK138_e18, Q_X5_, Q_X10_, Q_X15_⟩ hb_ hon hoff
     refine ⟨_, rfl, fun K hK => ?_⟩
     replace ha := za ha
     obtain ⟨HO_3, BK138, HK, HB⟩ := zD4 Q_HO_3 (Q_BK138 (hoff 18 zG63)) Q_HK Q_HB
     refine Kd.R_lit_step (Kd.int .i64) _ 3 ?hg (N := 33) ?hd (xs := ([0, 1000000, 1000001] : List Int)) (inner := [.int .i64 0, .int .i64 1000000, .int .i64 1000001]) (ok := fun _ => True) (okp := fun _ => True) ?hr ?hp (fun _ hk => hk) trivial (Below.refl _ _) (Nat.le_refl _) (by simp) ?_; (case hd => rfl); (case hg => rfl); (case hr => exact zH37); (case hp => exact (Reps.one (show Kd.M (Kd.int .i64) _ _ _ 0 [.int .i64 0] from rfl) (Reps.one (show Kd.M (Kd.int .i64) _ _ _ 1000000 [.int .i64 1000000] from rfl) (Reps.one (show Kd.M (Kd.int .i64) _ _ _ 1000001 [.int .i64 1000001] from rfl) (Reps.none _ _)))))
     intro v146 w35 ho36 hb hg_ hnew_
     clear hg_ hnew_
     (first | rw [← Ny145.out] at ho36 | (simp only [Int.reduceToNat] at ho36; rw [← Ny145.out] at ho36))
     obtain ⟨n0_, n1_, n3_, n4_, n5_⟩ := zD5 (zt zG62 hb) (zah ho36 (keep_size (w := w) (g := g) (row := none) zG53)) (zu (g := gb138) (o := .cells #[.int .i64 (wrap64 (1 + t126)), .int .i64 (wrap64 (1 + t129)), .int .i64 (wrap64 (1 + t132)), .int .i64 (wrap64 (1 + t135))] 54 (0, 0)) zG61 hb) (zv zG53 (zap hb g none) (.inl rfl)) (zp zK55 hb)
     have z_HI0 := fun (h0_ : b 1 = false) => (show IsS66 w0 w35 g s0_0 t140 t141 from by first | exact (IsS66.below zK47 hb))
     have z_HI0_e1 := fun (h0_ : b 1 = true) (h1_ : b 4 = false) => (show IsS66 w0 w35 g s0_0 t143 t144 from by first | exact (IsS66.below zK43 hb))
     have z_HI0_e4 := fun (h0_ : b 4 = true) (h1_ : b 9 = false) => (show IsS66 w0 w35 g s0_0 t149 t150 from by first | exact (IsS66.below zK44 hb))
     have z_HO154 := fun (h0_ : b 7 = true) => (show Kd.R (Kd.int .i64) 3 w35 w.heap.size (fun _ => True) v153 y152 from by first | exact (zal zK65 (zam ho36) hb) | exact zn (zal zK65 (zam ho36) hb) (fun _ h_ => by first | trivial | exact h_ | exact h_.1))
     have z_HI0_e9 := fun (h0_ : b 9 = true) (h1_ : b 14 = false) => (show IsS66 w0 w35 g s0_0 t156 t157 from by first | exact (IsS66.below zK45 hb))
     have z_HO161 := fun (h0_ : b 12 = true) => (show Kd.R (Kd.int .i64) 3 w35 w.heap.size (fun _ => True) v160 y159 from by first | exact (zal zK66 (zam ho36) hb) | exact zn (zal zK66 (zam ho36) hb) (fun _ h_ => by first | trivial | exact h_ | exact h_.1))
     have z_HI0_e14 := fun (h0_ : b 14 = true) => (show IsS66 w0 w35 g s0_0 t163 t164 from by first | exact (IsS66.below zK46 hb))
     clear HO_3
     clear BK138
     clear HK
     clear HB
     have HO_3 := n0_
     have HO147 := n1_
     have BK138 := n3_
     have HK := n4_
     have HB := n5_
     clear n0_ n1_ n3_ n4_ n5_
     clear hb ho36
     obtain ⟨Ao37, co37, eo37⟩ := zab HO147.out
     subst eo37
     obtain ⟨ado37, fo37, _⟩ := zaq (zx HO147.out).2.2 0 zG64 (by rw [Ny145.out]; simp)
     cases fo37
     refine hK.out _ _ ⟨.slice (some ado37) y145.length co37, ado37, v153, adz_v153, v160, adz_v160, m5_, m10_, m15_, (by rw [ha.out]; exact putSel_upk 1 hb_ rfl rfl rfl), zG62, fun _ => zG61, z_HI0, zG53, zK55, z_HI0_e1, fun _ => (by (with_reducible repeat (first | apply zl | apply zk | apply zm)); exact HO147.out), fun _ => ⟨_, rfl⟩, z_HI0_e4, z_HO154, Q_HA_HO154, z_HI0_e9, z_HO161, Q_HA_HO161, z_HI0_e14, fun h0_ => absurd ((hoff 18 zG63).symm.trans h0_) zG64, fun h0_ => absurd ((hoff 5 zG63).symm.trans h0_) zG64, Q_X10_, Q_X15_⟩
    refine steps_cons ?_ ?_
    ·rintro b a w' ⟨v146, adz_v146, v153, adz_v153, v160, adz_v160, m5_, m10_, m15_, ha, Q_HO_3, Q_BK138, Q_HI0, Q_HK, Q_HB, Q_HI0_e1, Q_HO147, Q_HA_HO147, Q_HI0_e4, Q_HO154, Q_HA_HO154, Q_HI0_e9, Q_HO161, Q_HA_HO161, Q_HI0_e14, Q_BK138_e18, Q_X5_, Q_X10_, Q_X15_⟩ hb_ hon hoff
     refine ⟨_, rfl, fun K hK => ?_⟩
     have e34 : a.tmps[34]? = some (.pointer (some ⟨g, 0, none⟩)) := by rw [ha]; exact (putSel_off rfl).trans rfl
     replace ha := za ha
     obtain ⟨HO_3, BK138, HK, HB, HI0⟩ := zD5 Q_HO_3 (Q_BK138 (hoff 18 zG63)) Q_HK Q_HB (Q_HI0_e1 (hon 1 zG63) hb_)
     refine goes_ Try.func20 zG63 rfl #[.pointer (some ⟨g, 0, none⟩), .int .i64 3] (by rfl) rfl rfl (by first | (simp only [List.map_toArray, List.map_cons, List.map_nil, Act.eval, Array.getD_eq_getD_getElem?, Option.getD_some, e34]; done) | (simp only [List.map_toArray, List.map_cons, List.map_nil, Act.eval, Array.getD_eq_getD_getElem?, Option.getD_some, e34]; rfl)) ?_
     with_reducible refine (spec_l00Src_next.calls g s0_0 t143 t144 3 t148 t149 t150 w0 _ ?side1 ?side2 A16.out).mono ?_
     (case side1 => exact zH8)
     (case side2 => exact zH18)
     rintro e w37 ⟨rfl, hi, hb, hk⟩
     refine ⟨_, rfl, ?_⟩
     obtain ⟨n0_, n1_, n2_, n3_, n4_⟩ := zD5 (zn (zw (IsS66.apart (show IsS66 w0 _ g s0_0 t143 t144 from by repeat (first | (with_reducible first | exact HI0.out | apply IsS66.alloc | apply IsS66.drewN | apply IsS66.drew | apply IsS66.set_1 | apply IsS66.set_2 | refine IsS66.far ?_ (IsS66.ne_blk HI0.out BK138.out zG64) _ | refine IsS66.far ?_ NB0_138.out _) | exact HI0.out)) zG62 zG64) hk (fun _ h => h.2)) (fun _ h => h.1)) (zas hk (g' := gb138) (o := .cells #[.int .i64 (wrap64 (1 + t126)), .int .i64 (wrap64 (1 + t129)), .int .i64 (wrap64 (1 + t132)), .int .i64 (wrap64 (1 + t135))] 54 (0, 0)) zG61 NB138_0.out (by simp)) (zv zG53 hk (.inl rfl)) (hb) (hi)
     have z_HO147 := fun (h0_ : b 2 = true) => (show Kd.R (Kd.int .i64) 3 w37 w.heap.size (fun _ => True) v146 y145 from by first | exact (zn (zw (IsS66.apart (show IsS66 w0 _ g s0_0 t143 t144 from by repeat (first | (with_reducible first | exact HI0.out | apply IsS66.alloc | apply IsS66.drewN | apply IsS66.drew | apply IsS66.set_1 | apply IsS66.set_2 | refine IsS66.far ?_ (IsS66.ne_blk HI0.out BK138.out zG64) _ | refine IsS66.far ?_ NB0_138.out _) | exact HI0.out)) zK64 zG64) hk (fun _ h => h.2)) (fun _ h => h.1)) | exact zn (zn (zw (IsS66.apart (show IsS66 w0 _ g s0_0 t143 t144 from by repeat (first | (with_reducible first | exact HI0.out | apply IsS66.alloc | apply IsS66.drewN | apply IsS66.drew | apply IsS66.set_1 | apply IsS66.set_2 | refine IsS66.far ?_ (IsS66.ne_blk HI0.out BK138.out zG64) _ | refine IsS66.far ?_ NB0_138.out _) | exact HI0.out)) zK64 zG64) hk (fun _ h => h.2)) (fun _ h => h.1)) (fun _ h_ => by first | trivial | exact h_ | exact h_.1))
     have z_HO154 := fun (h0_ : b 7 = true) => (show Kd.R (Kd.int .i64) 3 w37 w.heap.size (fun _ => True) v153 y152 from by first | exact (zn (zw (IsS66.apart (show IsS66 w0 _ g s0_0 t143 t144 from by repeat (first | (with_reducible first | exact HI0.out | apply IsS66.alloc | apply IsS66.drewN | apply IsS66.drew | apply IsS66.set_1 | apply IsS66.set_2 | refine IsS66.far ?_ (IsS66.ne_blk HI0.out BK138.out zG64) _ | refine IsS66.far ?_ NB0_138.out _) | exact HI0.out)) zK65 zG64) hk (fun _ h => h.2)) (fun _ h => h.1)) | exact zn (zn (zw (IsS66.apart (show IsS66 w0 _ g s0_0 t143 t144 from by repeat (first | (with_reducible first | exact HI0.out | apply IsS66.alloc | apply IsS66.drewN | apply IsS66.drew | apply IsS66.set_1 | apply IsS66.set_2 | refine IsS66.far ?_ (IsS66.ne_blk HI0.out BK138.out zG64) _ | refine IsS66.far ?_ NB0_138.out _) | exact HI0.out)) zK65 zG64) hk (fun _ h => h.2)) (fun _ h => h.1)) (fun _ h_ => by first | trivial | exact h_ | exact h_.1))
     have z_HO161 := fun (h0_ : b 12 = true) => (show Kd.R (Kd.int .i64) 3 w37 w.heap.size (fun _ => True) v160 y159 from by first | exact (zn (zw (IsS66.apart (show IsS66 w0 _ g s0_0 t143 t144 from by repeat (first | (with_reducible first | exact HI0.out | apply IsS66.alloc | apply IsS66.drewN | apply IsS66.drew | apply IsS66.set_1 | apply IsS66.set_2 | refine IsS66.far ?_ (IsS66.ne_blk HI0.out BK138.out zG64) _ | refine IsS66.far ?_ NB0_138.out _) | exact HI0.out)) zK66 zG64) hk (fun _ h => h.2)) (fun _ h => h.1)) | exact zn (zn (zw (IsS66.apart (show IsS66 w0 _ g s0_0 t143 t144 from by repeat (first | (with_reducible first | exact HI0.out | apply IsS66.alloc | apply IsS66.drewN | apply IsS66.drew | apply IsS66.set_1 | apply IsS66.set_2 | refine IsS66.far ?_ (IsS66.ne_blk HI0.out BK138.out zG64) _ | refine IsS66.far ?_ NB0_138.out _) | exact HI0.out)) zK66 zG64) hk (fun _ h => h.2)) (fun _ h => h.1)) (fun _ h_ => by first | trivial | exact h_ | exact h_.1))
     clear HO_3
     clear BK138
     clear HK
     clear HB
     clear HI0
     have HO_3 := n0_
     have BK138 := n1_
     have HK := n2_
     have HB := n3_
     have HI0 := n4_
     clear n0_ n1_ n2_ n3_ n4_
     (try clear hb)
     (try clear hb2)
     (try clear hk)
     (try clear hi)
     refine hK.out _ _ ⟨v146, adz_v146, v153, adz_v153, v160, adz_v160, m5_, m10_, m15_, (by rw [ha.out]; exact putSel_upk 2 hb_ rfl rfl rfl), zG62, fun _ => zG61, fun h0_ => absurd ((hon 1 zG63).symm.trans h0_) zG64, zG53, zK51, fun _ h1_ => absurd ((up_self b 4).symm.trans h1_) zG64, z_HO147, Q_HA_HO147, fun _ _ => zK42, z_HO154, Q_HA_HO154, fun h0_ _ => absurd ((hoff 9 zG63).symm.trans h0_) zG64, z_HO161, Q_HA_HO161, fun h0_ => absurd ((hoff 14 zG63).symm.trans h0_) zG64, fun h0_ => absurd ((hoff 18 zG63).symm.trans h0_) zG64, fun h0_ => absurd ((hoff 5 zG63).symm.trans h0_) zG64, fun h0_ => absurd ((hoff 10 zG63).symm.trans h0_) zG64, fun h0_ => absurd ((hoff 15 zG63).symm.trans h0_) zG64⟩
    refine steps_cons ?_ ?_
    ·rintro b a w' ⟨v146, adz_v146, v153, adz_v153, v160, adz_v160, m5_, m10_, m15_, ha, Q_HO_3, Q_BK138, Q_HI0, Q_HK, Q_HB, Q_HI0_e1, Q_HO147, Q_HA_HO147, Q_HI0_e4, Q_HO154, Q_HA_HO154, Q_HI0_e9, Q_HO161, Q_HA_HO161, Q_HI0_e14, Q_BK138_e18, Q_X5_, Q_X10_, Q_X15_⟩ hb_ hon hoff
     refine ⟨_, rfl, fun K hK => ?_⟩
     have e33 : a.tmps[33]? = some (v146) := by rw [ha]; exact putSel_on (e := (2, 33, v146)) 1 rfl rfl (hon 2 zG63) rfl
     have e35 : a.tmps[35]? = some (.int .i64 t148) := by rw [ha]; exact putSel_on (e := (4, 35, .int .i64 t148)) 2 rfl rfl (hon 4 zG63) rfl
     replace ha := za ha
     obtain ⟨HO_3, BK138, HK, HB, HO147, HA_HO147⟩ := zD6 Q_HO_3 (Q_BK138 (hoff 18 zG63)) Q_HK Q_HB (Q_HO147 (hon 2 zG63)) (Q_HA_HO147 (hon 2 zG63))
     obtain ⟨c_, hv_⟩ := HA_HO147.out
     rw [hv_] at e33
     refine value_ (w1 := w') (v := .pointer (some (adz_v146.add (t148).toNat))) (by rfl) rfl ?_ ?_
     ·go_simp
      (try simp only [i64_w])
      try rfl
     refine hK.out _ _ ⟨v146, adz_v146, v153, adz_v153, v160, adz_v160, (.pointer (some (adz_v146.add (t148).toNat))), m10_, m15_, (by rw [ha.out]; exact putSel_upk 3 hb_ rfl rfl rfl), Q_HO_3, Q_BK138, fun h0_ => absurd ((hon 1 zG63).symm.trans h0_) zG64, Q_HK, Q_HB, fun _ h1_ => absurd ((hon 4 zG63).symm.trans h1_) zG64, Q_HO147, Q_HA_HO147, Q_HI0_e4, Q_HO154, Q_HA_HO154, Q_HI0_e9, Q_HO161, Q_HA_HO161, Q_HI0_e14, fun h0_ => absurd ((hoff 18 zG63).symm.trans h0_) zG64, fun _ => rfl, Q_X10_, Q_X15_⟩
    refine steps_cons ?_ ?_
    ·rintro b a w' ⟨v146, adz_v146, v153, adz_v153, v160, adz_v160, m5_, m10_, m15_, ha, Q_HO_3, Q_BK138, Q_HI0, Q_HK, Q_HB, Q_HI0_e1, Q_HO147, Q_HA_HO147, Q_HI0_e4, Q_HO154, Q_HA_HO154, Q_HI0_e9, Q_HO161, Q_HA_HO161, Q_HI0_e14, Q_BK138_e18, Q_X5_, Q_X10_, Q_X15_⟩ hb_ hon hoff
     refine ⟨_, rfl, fun K hK => ?_⟩
     have e36 : a.tmps[36]? = some (m5_) := by rw [ha]; exact putSel_on (e := (5, 36, m5_)) 3 rfl rfl (hon 5 zG63) rfl
     rw [Q_X5_ (hon 5 zG63)] at e36
     replace ha := za ha
     obtain ⟨HO_3, BK138, HK, HB, HO147, HA_HO147⟩ := zD6 Q_HO_3 (Q_BK138 (hoff 18 zG63)) Q_HK Q_HB (Q_HO147 (hon 2 zG63)) (Q_HA_HO147 (hon 2 zG63))
     obtain ⟨c_, hv_⟩ := HA_HO147.out
     have hF_ := HO147.out
     rw [hv_] at hF_
     obtain ⟨ad_, ea_, hx_⟩ := zaq (zx hF_).2.2 t148 (of_eq_true pi151) (of_eq_true qi151)
     cases ea_
     refine value_ (w1 := w') (v := .int .i64 (rd y145 t148)) (by rfl) rfl ?_ ?_
     ·go_simp
      (try simp only [i64_w])
      try rfl
     refine hK.out _ _ ⟨v146, adz_v146, v153, adz_v153, v160, adz_v160, m5_, m10_, m15_, (by rw [ha.out]; exact putSel_upk 4 hb_ rfl rfl rfl), Q_HO_3, Q_BK138, fun h0_ => absurd ((hon 1 zG63).symm.trans h0_) zG64, Q_HK, Q_HB, fun _ h1_ => absurd ((hon 4 zG63).symm.trans h1_) zG64, Q_HO147, Q_HA_HO147, Q_HI0_e4, Q_HO154, Q_HA_HO154, Q_HI0_e9, Q_HO161, Q_HA_HO161, Q_HI0_e14, fun h0_ => absurd ((hoff 18 zG63).symm.trans h0_) zG64, Q_X5_, Q_X10_, Q_X15_⟩
    refine steps_cons ?_ ?_
    ·rintro b a w' ⟨v146, adz_v146, v153, adz_v153, v160, adz_v160, m5_, m10_, m15_, ha, Q_HO_3, Q_BK138, Q_HI0, Q_HK, Q_HB, Q_HI0_e1, Q_HO147, Q_HA_HO147, Q_HI0_e4, Q_HO154, Q_HA_HO154, Q_HI0_e9, Q_HO161, Q_HA_HO161, Q_HI0_e14, Q_BK138_e18, Q_X5_, Q_X10_, Q_X15_⟩ hb_ hon hoff
     refine ⟨_, rfl, fun K hK => ?_⟩
     replace ha := za ha
     obtain ⟨HO_3, BK138, HK, HB⟩ := zD4 Q_HO_3 (Q_BK138 (hoff 18 zG63)) Q_HK Q_HB
     refine Kd.R_lit_step (Kd.int .i64) _ 3 ?hg (N := 38) ?hd (xs := ([0, 100000, 1] : List Int)) (inner := [.int .i64 0, .int .i64 100000, .int .i64 1]) (ok := fun _ => True) (okp := fun _ => True) ?hr ?hp (fun _ hk => hk) trivial (Below.refl _ _) (Nat.le_refl _) (by simp) ?_; (case hd => rfl); (case hg => rfl); (case hr => exact zH37); (case hp => exact (Reps.one (show Kd.M (Kd.int .i64) _ _ _ 0 [.int .i64 0] from rfl) (Reps.one (show Kd.M (Kd.int .i64) _ _ _ 100000 [.int .i64 100000] from rfl) (Reps.one (show Kd.M (Kd.int .i64) _ _ _ 1 [.int .i64 1] from rfl) (Reps.none _ _)))))
     intro v153 w35 ho36 hb hg_ hnew_
     clear hg_ hnew_
     (first | rw [← Ny152.out] at ho36 | (simp only [Int.reduceToNat] at ho36; rw [← Ny152.out] at ho36))
     obtain ⟨n0_, n1_, n3_, n4_, n5_⟩ := zD5 (zt zG62 hb) (zah ho36 (keep_size (w := w) (g := g) (row := none) zG53)) (zu (g := gb138) (o := .cells #[.int .i64 (wrap64 (1 + t126)), .int .i64 (wrap64 (1 + t129)), .int .i64 (wrap64 (1 + t132)), .int .i64 (wrap64 (1 + t135))] 54 (0, 0)) zG61 hb) (zv zG53 (zap hb g none) (.inl rfl)) (zp zK55 hb)
     have z_HI0 := fun (h0_ : b 1 = false) => (show IsS66 w0 w35 g s0_0 t140 t141 from by first | exact (IsS66.below zK47 hb))
     have z_HI0_e1 := fun (h0_ : b 1 = true) (h1_ : b 4 = false) => (show IsS66 w0 w35 g s0_0 t143 t144 from by first | exact (IsS66.below zK43 hb))
     have z_HO147 := fun (h0_ : b 2 = true) => (show Kd.R (Kd.int .i64) 3 w35 w.heap.size (fun _ => True) v146 y145 from by first | exact (zal zK64 (zam ho36) hb) | exact zn (zal zK64 (zam ho36) hb) (fun _ h_ => by first | trivial | exact h_ | exact h_.1))
     have z_HI0_e4 := fun (h0_ : b 4 = true) (h1_ : b 9 = false) => (show IsS66 w0 w35 g s0_0 t149 t150 from by first | exact (IsS66.below zK44 hb))
     have z_HI0_e9 := fun (h0_ : b 9 = true) (h1_ : b 14 = false) => (show IsS66 w0 w35 g s0_0 t156 t157 from by first | exact (IsS66.below zK45 hb))
     have z_HO161 := fun (h0_ : b 12 = true) => (show Kd.R (Kd.int .i64) 3 w35 w.heap.size (fun _ => True) v160 y159 from by first | exact (zal zK66 (zam ho36) hb) | exact zn (zal zK66 (zam ho36) hb) (fun _ h_ => by first | trivial | exact h_ | exact h_.1))
     have z_HI0_e14 := fun (h0_ : b 14 = true) => (show IsS66 w0 w35 g s0_0 t163 t164 from by first | exact (IsS66.below zK46 hb))
     clear HO_3
     clear BK138
     clear HK
     clear HB
     have HO_3 := n0_
     have HO154 := n1_
     have BK138 := n3_
     have HK := n4_
     have HB := n5_
     clear n0_ n1_ n3_ n4_ n5_
     clear hb ho36
     obtain ⟨Ao37, co37, eo37⟩ := zab HO154.out
     subst eo37
     obtain ⟨ado37, fo37, _⟩ := zaq (zx HO154.out).2.2 0 zG64 (by rw [Ny152.out]; simp)
     cases fo37
     refine hK.out _ _ ⟨v146, adz_v146, .slice (some ado37) y152.length co37, ado37, v160, adz_v160, m5_, m10_, m15_, (by rw [ha.out]; exact putSel_upk 5 hb_ rfl rfl rfl), zG62, fun _ => zG61, z_HI0, zG53, zK55, z_HI0_e1, z_HO147, Q_HA_HO147, z_HI0_e4, fun _ => (by (with_reducible repeat (first | apply zl | apply zk | apply zm)); exact HO154.out), fun _ => ⟨_, rfl⟩, z_HI0_e9, z_HO161, Q_HA_HO161, z_HI0_e14, fun h0_ => absurd ((hoff 18 zG63).symm.trans h0_) zG64, Q_X5_, fun h0_ => absurd ((hoff 10 zG63).symm.trans h0_) zG64, Q_X15_⟩
    refine steps_cons ?_ ?_
    ·rintro b a w' ⟨v146, adz_v146, v153, adz_v153, v160, adz_v160, m5_, m10_, m15_, ha, Q_HO_3, Q_BK138, Q_HI0, Q_HK, Q_HB, Q_HI0_e1, Q_HO147, Q_HA_HO147, Q_HI0_e4, Q_HO154, Q_HA_HO154, Q_HI0_e9, Q_HO161, Q_HA_HO161, Q_HI0_e14, Q_BK138_e18, Q_X5_, Q_X10_, Q_X15_⟩ hb_ hon hoff
     refine ⟨_, rfl, fun K hK => ?_⟩
     have e39 : a.tmps[39]? = some (.pointer (some ⟨g, 0, none⟩)) := by rw [ha]; exact (putSel_off rfl).trans rfl
     replace ha := za ha
     obtain ⟨HO_3, BK138, HK, HB, HI0⟩ := zD5 Q_HO_3 (Q_BK138 (hoff 18 zG63)) Q_HK Q_HB (Q_HI0_e4 (hon 4 zG63) hb_)
     refine goes_ Try.func20 zG63 rfl #[.pointer (some ⟨g, 0, none⟩), .int .i64 3] (by rfl) rfl rfl (by first | (simp only [List.map_toArray, List.map_cons, List.map_nil, Act.eval, Array.getD_eq_getD_getElem?, Option.getD_some, e39]; done) | (simp only [List.map_toArray, List.map_cons, List.map_nil, Act.eval, Array.getD_eq_getD_getElem?, Option.getD_some, e39]; rfl)) ?_
     with_reducible refine (spec_l00Src_next.calls g s0_0 t149 t150 3 t155 t156 t157 w0 _ ?side1 ?side2 A19.out).mono ?_
     (case side1 => exact zH8)
     (case side2 => exact zH18)
     rintro e w38 ⟨rfl, hi, hb, hk⟩
     refine ⟨_, rfl, ?_⟩
     obtain ⟨n0_, n1_, n2_, n3_, n4_⟩ := zD5 (zn (zw (IsS66.apart (show IsS66 w0 _ g s0_0 t149 t150 from by repeat (first | (with_reducible first | exact HI0.out | apply IsS66.alloc | apply IsS66.drewN | apply IsS66.drew | apply IsS66.set_1 | apply IsS66.set_2 | refine IsS66.far ?_ (IsS66.ne_blk HI0.out BK138.out zG64) _ | refine IsS66.far ?_ NB0_138.out _) | exact HI0.out)) zG62 zG64) hk (fun _ h => h.2)) (fun _ h => h.1)) (zas hk (g' := gb138) (o := .cells #[.int .i64 (wrap64 (1 + t126)), .int .i64 (wrap64 (1 + t129)), .int .i64 (wrap64 (1 + t132)), .int .i64 (wrap64 (1 + t135))] 54 (0, 0)) zG61 NB138_0.out (by simp)) (zv zG53 hk (.inl rfl)) (hb) (hi)
     have z_HO147 := fun (h0_ : b 2 = true) => (show Kd.R (Kd.int .i64) 3 w38 w.heap.size (fun _ => True) v146 y145 from by first | exact (zn (zw (IsS66.apart (show IsS66 w0 _ g s0_0 t149 t150 from by repeat (first | (with_reducible first | exact HI0.out | apply IsS66.alloc | apply IsS66.drewN | apply IsS66.drew | apply IsS66.set_1 | apply IsS66.set_2 | refine IsS66.far ?_ (IsS66.ne_blk HI0.out BK138.out zG64) _ | refine IsS66.far ?_ NB0_138.out _) | exact HI0.out)) zK64 zG64) hk (fun _ h => h.2)) (fun _ h => h.1)) | exact zn (zn (zw (IsS66.apart (show IsS66 w0 _ g s0_0 t149 t150 from by repeat (first | (with_reducible first | exact HI0.out | apply IsS66.alloc | apply IsS66.drewN | apply IsS66.drew | apply IsS66.set_1 | apply IsS66.set_2 | refine IsS66.far ?_ (IsS66.ne_blk HI0.out BK138.out zG64) _ | refine IsS66.far ?_ NB0_138.out _) | exact HI0.out)) zK64 zG64) hk (fun _ h => h.2)) (fun _ h => h.1)) (fun _ h_ => by first | trivial | exact h_ | exact h_.1))
     have z_HO154 := fun (h0_ : b 7 = true) => (show Kd.R (Kd.int .i64) 3 w38 w.heap.size (fun _ => True) v153 y152 from by first | exact (zn (zw (IsS66.apart (show IsS66 w0 _ g s0_0 t149 t150 from by repeat (first | (with_reducible first | exact HI0.out | apply IsS66.alloc | apply IsS66.drewN | apply IsS66.drew | apply IsS66.set_1 | apply IsS66.set_2 | refine IsS66.far ?_ (IsS66.ne_blk HI0.out BK138.out zG64) _ | refine IsS66.far ?_ NB0_138.out _) | exact HI0.out)) zK65 zG64) hk (fun _ h => h.2)) (fun _ h => h.1)) | exact zn (zn (zw (IsS66.apart (show IsS66 w0 _ g s0_0 t149 t150 from by repeat (first | (with_reducible first | exact HI0.out | apply IsS66.alloc | apply IsS66.drewN | apply IsS66.drew | apply IsS66.set_1 | apply IsS66.set_2 | refine IsS66.far ?_ (IsS66.ne_blk HI0.out BK138.out zG64) _ | refine IsS66.far ?_ NB0_138.out _) | exact HI0.out)) zK65 zG64) hk (fun _ h => h.2)) (fun _ h => h.1)) (fun _ h_ => by first | trivial | exact h_ | exact h_.1))
     have z_HO161 := fun (h0_ : b 12 = true) => (show Kd.R (Kd.int .i64) 3 w38 w.heap.size (fun _ => True) v160 y159 from by first | exact (zn (zw (IsS66.apart (show IsS66 w0 _ g s0_0 t149 t150 from by repeat (first | (with_reducible first | exact HI0.out | apply IsS66.alloc | apply IsS66.drewN | apply IsS66.drew | apply IsS66.set_1 | apply IsS66.set_2 | refine IsS66.far ?_ (IsS66.ne_blk HI0.out BK138.out zG64) _ | refine IsS66.far ?_ NB0_138.out _) | exact HI0.out)) zK66 zG64) hk (fun _ h => h.2)) (fun _ h => h.1)) | exact zn (zn (zw (IsS66.apart (show IsS66 w0 _ g s0_0 t149 t150 from by repeat (first | (with_reducible first | exact HI0.out | apply IsS66.alloc | apply IsS66.drewN | apply IsS66.drew | apply IsS66.set_1 | apply IsS66.set_2 | refine IsS66.far ?_ (IsS66.ne_blk HI0.out BK138.out zG64) _ | refine IsS66.far ?_ NB0_138.out _) | exact HI0.out)) zK66 zG64) hk (fun _ h => h.2)) (fun _ h => h.1)) (fun _ h_ => by first | trivial | exact h_ | exact h_.1))
     clear HO_3
     clear BK138
     clear HK
     clear HB
     clear HI0
     have HO_3 := n0_
     have BK138 := n1_
     have HK := n2_
     have HB := n3_
     have HI0 := n4_
     clear n0_ n1_ n2_ n3_ n4_
     (try clear hb)
     (try clear hb2)
     (try clear hk)
     (try clear hi)
     refine hK.out _ _ ⟨v146, adz_v146, v153, adz_v153, v160, adz_v160, m5_, m10_, m15_, (by rw [ha.out]; exact putSel_upk 6 hb_ rfl rfl rfl), zG62, fun _ => zG61, fun h0_ => absurd ((hon 1 zG63).symm.trans h0_) zG64, zG53, zK51, fun _ h1_ => absurd ((hon 4 zG63).symm.trans h1_) zG64, z_HO147, Q_HA_HO147, fun _ h1_ => absurd ((up_self b 9).symm.trans h1_) zG64, z_HO154, Q_HA_HO154, fun _ _ => zK42, z_HO161, Q_HA_HO161, fun h0_ => absurd ((hoff 14 zG63).symm.trans h0_) zG64, fun h0_ => absurd ((hoff 18 zG63).symm.trans h0_) zG64, Q_X5_, fun h0_ => absurd ((hoff 10 zG63).symm.trans h0_) zG64, fun h0_ => absurd ((hoff 15 zG63).symm.trans h0_) zG64⟩
    refine steps_cons ?_ ?_
    ·rintro b a w' ⟨v146, adz_v146, v153, adz_v153, v160, adz_v160, m5_, m10_, m15_, ha, Q_HO_3, Q_BK138, Q_HI0, Q_HK, Q_HB, Q_HI0_e1, Q_HO147, Q_HA_HO147, Q_HI0_e4, Q_HO154, Q_HA_HO154, Q_HI0_e9, Q_HO161, Q_HA_HO161, Q_HI0_e14, Q_BK138_e18, Q_X5_, Q_X10_, Q_X15_⟩ hb_ hon hoff
     refine ⟨_, rfl, fun K hK => ?_⟩
     have e38 : a.tmps[38]? = some (v153) := by rw [ha]; exact putSel_on (e := (7, 38, v153)) 5 rfl rfl (hon 7 zG63) rfl
     have e40 : a.tmps[40]? = some (.int .i64 t155) := by rw [ha]; exact putSel_on (e := (9, 40, .int .i64 t155)) 6 rfl rfl (hon 9 zG63) rfl
     replace ha := za ha
     obtain ⟨HO_3, BK138, HK, HB, HO154, HA_HO154⟩ := zD6 Q_HO_3 (Q_BK138 (hoff 18 zG63)) Q_HK Q_HB (Q_HO154 (hon 7 zG63)) (Q_HA_HO154 (hon 7 zG63))
     obtain ⟨c_, hv_⟩ := HA_HO154.out
     rw [hv_] at e38
     refine value_ (w1 := w') (v := .pointer (some (adz_v153.add (t155).toNat))) (by rfl) rfl ?_ ?_
     ·go_simp
      (try simp only [i64_w])
      try rfl
     refine hK.out _ _ ⟨v146, adz_v146, v153, adz_v153, v160, adz_v160, m5_, (.pointer (some (adz_v153.add (t155).toNat))), m15_, (by rw [ha.out]; exact putSel_upk 7 hb_ rfl rfl rfl), Q_HO_3, Q_BK138, fun h0_ => absurd ((hon 1 zG63).symm.trans h0_) zG64, Q_HK, Q_HB, fun _ h1_ => absurd ((hon 4 zG63).symm.trans h1_) zG64, Q_HO147, Q_HA_HO147, fun _ h1_ => absurd ((hon 9 zG63).symm.trans h1_) zG64, Q_HO154, Q_HA_HO154, Q_HI0_e9, Q_HO161, Q_HA_HO161, Q_HI0_e14, fun h0_ => absurd ((hoff 18 zG63).symm.trans h0_) zG64, Q_X5_, fun _ => rfl, Q_X15_⟩
    refine steps_cons ?_ ?_
    ·rintro b a w' ⟨v146, adz_v146, v153, adz_v153, v160, adz_v160, m5_, m10_, m15_, ha, Q_HO_3, Q_BK138, Q_HI0, Q_HK, Q_HB, Q_HI0_e1, Q_HO147, Q_HA_HO147, Q_HI0_e4, Q_HO154, Q_HA_HO154, Q_HI0_e9, Q_HO161, Q_HA_HO161, Q_HI0_e14, Q_BK138_e18, Q_X5_, Q_X10_, Q_X15_⟩ hb_ hon hoff
     refine ⟨_, rfl, fun K hK => ?_⟩
     have e41 : a.tmps[41]? = some (m10_) := by rw [ha]; exact putSel_on (e := (10, 41, m10_)) 7 rfl rfl (hon 10 zG63) rfl
     rw [Q_X10_ (hon 10 zG63)] at e41
     replace ha := za ha
     obtain ⟨HO_3, BK138, HK, HB, HO154, HA_HO154⟩ := zD6 Q_HO_3 (Q_BK138 (hoff 18 zG63)) Q_HK Q_HB (Q_HO154 (hon 7 zG63)) (Q_HA_HO154 (hon 7 zG63))
     obtain ⟨c_, hv_⟩ := HA_HO154.out
     have hF_ := HO154.out
     rw [hv_] at hF_
     obtain ⟨ad_, ea_, hx_⟩ := zaq (zx hF_).2.2 t155 (of_eq_true pi158) (of_eq_true qi158)
     cases ea_
     refine value_ (w1 := w') (v := .int .i64 (rd y152 t155)) (by rfl) rfl ?_ ?_
     ·go_simp
      (try simp only [i64_w])
      try rfl
     refine hK.out _ _ ⟨v146, adz_v146, v153, adz_v153, v160, adz_v160, m5_, m10_, m15_, (by rw [ha.out]; exact putSel_upk 8 hb_ rfl rfl rfl), Q_HO_3, Q_BK138, fun h0_ => absurd ((hon 1 zG63).symm.trans h0_) zG64, Q_HK, Q_HB, fun _ h1_ => absurd ((hon 4 zG63).symm.trans h1_) zG64, Q_HO147, Q_HA_HO147, fun _ h1_ => absurd ((hon 9 zG63).symm.trans h1_) zG64, Q_HO154, Q_HA_HO154, Q_HI0_e9, Q_HO161, Q_HA_HO161, Q_HI0_e14, fun h0_ => absurd ((hoff 18 zG63).symm.trans h0_) zG64, Q_X5_, Q_X10_, Q_X15_⟩
    refine steps_cons ?_ ?_
    ·rintro b a w' ⟨v146, adz_v146, v153, adz_v153, v160, adz_v160, m5_, m10_, m15_, ha, Q_HO_3, Q_BK138, Q_HI0, Q_HK, Q_HB, Q_HI0_e1, Q_HO147, Q_HA_HO147, Q_HI0_e4, Q_HO154, Q_HA_HO154, Q_HI0_e9, Q_HO161, Q_HA_HO161, Q_HI0_e14, Q_BK138_e18, Q_X5_, Q_X10_, Q_X15_⟩ hb_ hon hoff
     refine ⟨_, rfl, fun K hK => ?_⟩
     replace ha := za ha
     obtain ⟨HO_3, BK138, HK, HB⟩ := zD4 Q_HO_3 (Q_BK138 (hoff 18 zG63)) Q_HK Q_HB
     refine Kd.R_lit_step (Kd.int .i64) _ 3 ?hg (N := 43) ?hd (xs := ([0, (-1), 10000, 10001] : List Int)) (inner := [.int .i64 0, .int .i64 (-1), .int .i64 10000, .int .i64 10001]) (ok := fun _ => True) (okp := fun _ => True) ?hr ?hp (fun _ hk => hk) trivial (Below.refl _ _) (Nat.le_refl _) (by simp) ?_; (case hd => rfl); (case hg => rfl); (case hr => exact zH37); (case hp => exact (Reps.one (show Kd.M (Kd.int .i64) _ _ _ 0 [.int .i64 0] from rfl) (Reps.one (show Kd.M (Kd.int .i64) _ _ _ (-1) [.int .i64 (-1)] from rfl) (Reps.one (show Kd.M (Kd.int .i64) _ _ _ 10000 [.int .i64 10000] from rfl) (Reps.one (show Kd.M (Kd.int .i64) _ _ _ 10001 [.int .i64 10001] from rfl) (Reps.none _ _))))))
     intro v160 w35 ho36 hb hg_ hnew_
     clear hg_ hnew_
     (first | rw [← Ny159.out] at ho36 | (simp only [Int.reduceToNat] at ho36; rw [← Ny159.out] at ho36))
     obtain ⟨n0_, n1_, n3_, n4_, n5_⟩ := zD5 (zt zG62 hb) (zah ho36 (keep_size (w := w) (g := g) (row := none) zG53)) (zu (g := gb138) (o := .cells #[.int .i64 (wrap64 (1 + t126)), .int .i64 (wrap64 (1 + t129)), .int .i64 (wrap64 (1 + t132)), .int .i64 (wrap64 (1 + t135))] 54 (0, 0)) zG61 hb) (zv zG53 (zap hb g none) (.inl rfl)) (zp zK55 hb)
     have z_HI0 := fun (h0_ : b 1 = false) => (show IsS66 w0 w35 g s0_0 t140 t141 from by first | exact (IsS66.below zK47 hb))
     have z_HI0_e1 := fun (h0_ : b 1 = true) (h1_ : b 4 = false) => (show IsS66 w0 w35 g s0_0 t143 t144 from by first | exact (IsS66.below zK43 hb))
     have z_HO147 := fun (h0_ : b 2 = true) => (show Kd.R (Kd.int .i64) 3 w35 w.heap.size (fun _ => True) v146 y145 from by first | exact (zal zK64 (zam ho36) hb) | exact zn (zal zK64 (zam ho36) hb) (fun _ h_ => by first | trivial | exact h_ | exact h_.1))
     have z_HI0_e4 := fun (h0_ : b 4 = true) (h1_ : b 9 = false) => (show IsS66 w0 w35 g s0_0 t149 t150 from by first | exact (IsS66.below zK44 hb))
     have z_HO154 := fun (h0_ : b 7 = true) => (show Kd.R (Kd.int .i64) 3 w35 w.heap.size (fun _ => True) v153 y152 from by first | exact (zal zK65 (zam ho36) hb) | exact zn (zal zK65 (zam ho36) hb) (fun _ h_ => by first | trivial | exact h_ | exact h_.1))
     have z_HI0_e9 := fun (h0_ : b 9 = true) (h1_ : b 14 = false) => (show IsS66 w0 w35 g s0_0 t156 t157 from by first | exact (IsS66.below zK45 hb))
     have z_HI0_e14 := fun (h0_ : b 14 = true) => (show IsS66 w0 w35 g s0_0 t163 t164 from by first | exact (IsS66.below zK46 hb))
     clear HO_3
     clear BK138
     clear HK
     clear HB
     have HO_3 := n0_
     have HO161 := n1_
     have BK138 := n3_
     have HK := n4_
     have HB := n5_
     clear n0_ n1_ n3_ n4_ n5_
     clear hb ho36
     obtain ⟨Ao37, co37, eo37⟩ := zab HO161.out
     subst eo37
     obtain ⟨ado37, fo37, _⟩ := zaq (zx HO161.out).2.2 0 zG64 (by rw [Ny159.out]; simp)
     cases fo37
     refine hK.out _ _ ⟨v146, adz_v146, v153, adz_v153, .slice (some ado37) y159.length co37, ado37, m5_, m10_, m15_, (by rw [ha.out]; exact putSel_upk 9 hb_ rfl rfl rfl), zG62, fun _ => zG61, z_HI0, zG53, zK55, z_HI0_e1, z_HO147, Q_HA_HO147, z_HI0_e4, z_HO154, Q_HA_HO154, z_HI0_e9, fun _ => (by (with_reducible repeat (first | apply zl | apply zk | apply zm)); exact HO161.out), fun _ => ⟨_, rfl⟩, z_HI0_e14, fun h0_ => absurd ((hoff 18 zG63).symm.trans h0_) zG64, Q_X5_, Q_X10_, fun h0_ => absurd ((hoff 15 zG63).symm.trans h0_) zG64⟩
    refine steps_cons ?_ ?_
    ·rintro b a w' ⟨v146, adz_v146, v153, adz_v153, v160, adz_v160, m5_, m10_, m15_, ha, Q_HO_3, Q_BK138, Q_HI0, Q_HK, Q_HB, Q_HI0_e1, Q_HO147, Q_HA_HO147, Q_HI0_e4, Q_HO154, Q_HA_HO154, Q_HI0_e9, Q_HO161, Q_HA_HO161, Q_HI0_e14, Q_BK138_e18, Q_X5_, Q_X10_, Q_X15_⟩ hb_ hon hoff
     refine ⟨_, rfl, fun K hK => ?_⟩
     have e44 : a.tmps[44]? = some (.pointer (some ⟨g, 0, none⟩)) := by rw [ha]; exact (putSel_off rfl).trans rfl
     replace ha := za ha
     obtain ⟨HO_3, BK138, HK, HB, HI0⟩ := zD5 Q_HO_3 (Q_BK138 (hoff 18 zG63)) Q_HK Q_HB (Q_HI0_e9 (hon 9 zG63) hb_)
     refine goes_ Try.func20 zG63 rfl #[.pointer (some ⟨g, 0, none⟩), .int .i64 4] (by rfl) rfl rfl (by first | (simp only [List.map_toArray, List.map_cons, List.map_nil, Act.eval, Array.getD_eq_getD_getElem?, Option.getD_some, e44]; done) | (simp only [List.map_toArray, List.map_cons, List.map_nil, Act.eval, Array.getD_eq_getD_getElem?, Option.getD_some, e44]; rfl)) ?_
     with_reducible refine (spec_l00Src_next.calls g s0_0 t156 t157 4 t162 t163 t164 w0 _ ?side1 ?side2 A22.out).mono ?_
     (case side1 => exact zH8)
     (case side2 => exact zH18)
     rintro e w39 ⟨rfl, hi, hb, hk⟩
     refine ⟨_, rfl, ?_⟩
     obtain ⟨n0_, n1_, n2_, n3_, n4_⟩ := zD5 (zn (zw (IsS66.apart (show IsS66 w0 _ g s0_0 t156 t157 from by repeat (first | (with_reducible first | exact HI0.out | apply IsS66.alloc | apply IsS66.drewN | apply IsS66.drew | apply IsS66.set_1 | apply IsS66.set_2 | refine IsS66.far ?_ (IsS66.ne_blk HI0.out BK138.out zG64) _ | refine IsS66.far ?_ NB0_138.out _) | exact HI0.out)) zG62 zG64) hk (fun _ h => h.2)) (fun _ h => h.1)) (zas hk (g' := gb138) (o := .cells #[.int .i64 (wrap64 (1 + t126)), .int .i64 (wrap64 (1 + t129)), .int .i64 (wrap64 (1 + t132)), .int .i64 (wrap64 (1 + t135))] 54 (0, 0)) zG61 NB138_0.out (by simp)) (zv zG53 hk (.inl rfl)) (hb) (hi)
     have z_HO147 := fun (h0_ : b 2 = true) => (show Kd.R (Kd.int .i64) 3 w39 w.heap.size (fun _ => True) v146 y145 from by first | exact (zn (zw (IsS66.apart (show IsS66 w0 _ g s0_0 t156 t157 from by repeat (first | (with_reducible first | exact HI0.out | apply IsS66.alloc | apply IsS66.drewN | apply IsS66.drew | apply IsS66.set_1 | apply IsS66.set_2 | refine IsS66.far ?_ (IsS66.ne_blk HI0.out BK138.out zG64) _ | refine IsS66.far ?_ NB0_138.out _) | exact HI0.out)) zK64 zG64) hk (fun _ h => h.2)) (fun _ h => h.1)) | exact zn (zn (zw (IsS66.apart (show IsS66 w0 _ g s0_0 t156 t157 from by repeat (first | (with_reducible first | exact HI0.out | apply IsS66.alloc | apply IsS66.drewN | apply IsS66.drew | apply IsS66.set_1 | apply IsS66.set_2 | refine IsS66.far ?_ (IsS66.ne_blk HI0.out BK138.out zG64) _ | refine IsS66.far ?_ NB0_138.out _) | exact HI0.out)) zK64 zG64) hk (fun _ h => h.2)) (fun _ h => h.1)) (fun _ h_ => by first | trivial | exact h_ | exact h_.1))
     have z_HO154 := fun (h0_ : b 7 = true) => (show Kd.R (Kd.int .i64) 3 w39 w.heap.size (fun _ => True) v153 y152 from by first | exact (zn (zw (IsS66.apart (show IsS66 w0 _ g s0_0 t156 t157 from by repeat (first | (with_reducible first | exact HI0.out | apply IsS66.alloc | apply IsS66.drewN | apply IsS66.drew | apply IsS66.set_1 | apply IsS66.set_2 | refine IsS66.far ?_ (IsS66.ne_blk HI0.out BK138.out zG64) _ | refine IsS66.far ?_ NB0_138.out _) | exact HI0.out)) zK65 zG64) hk (fun _ h => h.2)) (fun _ h => h.1)) | exact zn (zn (zw (IsS66.apart (show IsS66 w0 _ g s0_0 t156 t157 from by repeat (first | (with_reducible first | exact HI0.out | apply IsS66.alloc | apply IsS66.drewN | apply IsS66.drew | apply IsS66.set_1 | apply IsS66.set_2 | refine IsS66.far ?_ (IsS66.ne_blk HI0.out BK138.out zG64) _ | refine IsS66.far ?_ NB0_138.out _) | exact HI0.out)) zK65 zG64) hk (fun _ h => h.2)) (fun _ h => h.1)) (fun _ h_ => by first | trivial | exact h_ | exact h_.1))
     have z_HO161 := fun (h0_ : b 12 = true) => (show Kd.R (Kd.int .i64) 3 w39 w.heap.size (fun _ => True) v160 y159 from by first | exact (zn (zw (IsS66.apart (show IsS66 w0 _ g s0_0 t156 t157 from by repeat (first | (with_reducible first | exact HI0.out | apply IsS66.alloc | apply IsS66.drewN | apply IsS66.drew | apply IsS66.set_1 | apply IsS66.set_2 | refine IsS66.far ?_ (IsS66.ne_blk HI0.out BK138.out zG64) _ | refine IsS66.far ?_ NB0_138.out _) | exact HI0.out)) zK66 zG64) hk (fun _ h => h.2)) (fun _ h => h.1)) | exact zn (zn (zw (IsS66.apart (show IsS66 w0 _ g s0_0 t156 t157 from by repeat (first | (with_reducible first | exact HI0.out | apply IsS66.alloc | apply IsS66.drewN | apply IsS66.drew | apply IsS66.set_1 | apply IsS66.set_2 | refine IsS66.far ?_ (IsS66.ne_blk HI0.out BK138.out zG64) _ | refine IsS66.far ?_ NB0_138.out _) | exact HI0.out)) zK66 zG64) hk (fun _ h => h.2)) (fun _ h => h.1)) (fun _ h_ => by first | trivial | exact h_ | exact h_.1))
     clear HO_3
     clear BK138
     clear HK
     clear HB
     clear HI0
     have HO_3 := n0_
     have BK138 := n1_
     have HK := n2_
     have HB := n3_
     have HI0 := n4_
     clear n0_ n1_ n2_ n3_ n4_
     (try clear hb)
     (try clear hb2)
     (try clear hk)
     (try clear hi)
     refine hK.out _ _ ⟨v146, adz_v146, v153, adz_v153, v160, adz_v160, m5_, m10_, m15_, (by rw [ha.out]; exact putSel_upk 10 hb_ rfl rfl rfl), zG62, fun _ => zG61, fun h0_ => absurd ((hon 1 zG63).symm.trans h0_) zG64, zG53, zK51, fun _ h1_ => absurd ((hon 4 zG63).symm.trans h1_) zG64, z_HO147, Q_HA_HO147, fun _ h1_ => absurd ((hon 9 zG63).symm.trans h1_) zG64, z_HO154, Q_HA_HO154, fun _ h1_ => absurd ((up_self b 14).symm.trans h1_) zG64, z_HO161, Q_HA_HO161, fun _ => zK42, fun h0_ => absurd ((hoff 18 zG63).symm.trans h0_) zG64, Q_X5_, Q_X10_, fun h0_ => absurd ((hoff 15 zG63).symm.trans h0_) zG64⟩
    refine steps_cons ?_ ?_
    ·rintro b a w' ⟨v146, adz_v146, v153, adz_v153, v160, adz_v160, m5_, m10_, m15_, ha, Q_HO_3, Q_BK138, Q_HI0, Q_HK, Q_HB, Q_HI0_e1, Q_HO147, Q_HA_HO147, Q_HI0_e4, Q_HO154, Q_HA_HO154, Q_HI0_e9, Q_HO161, Q_HA_HO161, Q_HI0_e14, Q_BK138_e18, Q_X5_, Q_X10_, Q_X15_⟩ hb_ hon hoff
     refine ⟨_, rfl, fun K hK => ?_⟩
     have e43 : a.tmps[43]? = some (v160) := by rw [ha]; exact putSel_on (e := (12, 43, v160)) 9 rfl rfl (hon 12 zG63) rfl
     have e45 : a.tmps[45]? = some (.int .i64 t162) := by rw [ha]; exact putSel_on (e := (14, 45, .int .i64 t162)) 10 rfl rfl (hon 14 zG63) rfl
     replace ha := za ha
     obtain ⟨HO_3, BK138, HK, HB, HO161, HA_HO161, HI0⟩ := zD7 Q_HO_3 (Q_BK138 (hoff 18 zG63)) Q_HK Q_HB (Q_HO161 (hon 12 zG63)) (Q_HA_HO161 (hon 12 zG63)) (Q_HI0_e14 (hon 14 zG63))
     obtain ⟨c_, hv_⟩ := HA_HO161.out
     rw [hv_] at e43
     refine value_ (w1 := w') (v := .pointer (some (adz_v160.add (t162).toNat))) (by rfl) rfl ?_ ?_
     ·go_simp
      (try simp only [i64_w])
      try rfl
     refine hK.out _ _ ⟨v146, adz_v146, v153, adz_v153, v160, adz_v160, m5_, m10_, (.pointer (some (adz_v160.add (t162).toNat))), (by rw [ha.out]; exact putSel_upk 11 hb_ rfl rfl rfl), Q_HO_3, Q_BK138, fun h0_ => absurd ((hon 1 zG63).symm.trans h0_) zG64, Q_HK, Q_HB, fun _ h1_ => absurd ((hon 4 zG63).symm.trans h1_) zG64, Q_HO147, Q_HA_HO147, fun _ h1_ => absurd ((hon 9 zG63).symm.trans h1_) zG64, Q_HO154, Q_HA_HO154, fun _ h1_ => absurd ((hon 14 zG63).symm.trans h1_) zG64, Q_HO161, Q_HA_HO161, Q_HI0_e14, fun h0_ => absurd ((hoff 18 zG63).symm.trans h0_) zG64, Q_X5_, Q_X10_, fun _ => rfl⟩
    refine steps_cons ?_ ?_
    ·rintro b a w' ⟨v146, adz_v146, v153, adz_v153, v160, adz_v160, m5_, m10_, m15_, ha, Q_HO_3, Q_BK138, Q_HI0, Q_HK, Q_HB, Q_HI0_e1, Q_HO147, Q_HA_HO147, Q_HI0_e4, Q_HO154, Q_HA_HO154, Q_HI0_e9, Q_HO161, Q_HA_HO161, Q_HI0_e14, Q_BK138_e18, Q_X5_, Q_X10_, Q_X15_⟩ hb_ hon hoff
     refine ⟨_, rfl, fun K hK => ?_⟩
     have e46 : a.tmps[46]? = some (m15_) := by rw [ha]; exact putSel_on (e := (15, 46, m15_)) 11 rfl rfl (hon 15 zG63) rfl
     rw [Q_X15_ (hon 15 zG63)] at e46
     replace ha := za ha
     obtain ⟨HO_3, BK138, HK, HB, HO161, HA_HO161, HI0⟩ := zD7 Q_HO_3 (Q_BK138 (hoff 18 zG63)) Q_HK Q_HB (Q_HO161 (hon 12 zG63)) (Q_HA_HO161 (hon 12 zG63)) (Q_HI0_e14 (hon 14 zG63))
     obtain ⟨c_, hv_⟩ := HA_HO161.out
     have hF_ := HO161.out
     rw [hv_] at hF_
     obtain ⟨ad_, ea_, hx_⟩ := zaq (zx hF_).2.2 t162 (of_eq_true pi165) (of_eq_true qi165)
     cases ea_
     refine value_ (w1 := w') (v := .int .i64 (rd y159 t162)) (by rfl) rfl ?_ ?_
     ·go_simp
      (try simp only [i64_w])
      try rfl
     refine hK.out _ _ ⟨v146, adz_v146, v153, adz_v153, v160, adz_v160, m5_, m10_, m15_, (by rw [ha.out]; exact putSel_upk 12 hb_ rfl rfl rfl), Q_HO_3, Q_BK138, fun h0_ => absurd ((hon 1 zG63).symm.trans h0_) zG64, Q_HK, Q_HB, fun _ h1_ => absurd ((hon 4 zG63).symm.trans h1_) zG64, Q_HO147, Q_HA_HO147, fun _ h1_ => absurd ((hon 9 zG63).symm.trans h1_) zG64, Q_HO154, Q_HA_HO154, fun _ h1_ => absurd ((hon 14 zG63).symm.trans h1_) zG64, Q_HO161, Q_HA_HO161, Q_HI0_e14, fun h0_ => absurd ((hoff 18 zG63).symm.trans h0_) zG64, Q_X5_, Q_X10_, Q_X15_⟩
    refine steps_cons ?_ ?_
    ·rintro b a w' ⟨v146, adz_v146, v153, adz_v153, v160, adz_v160, m5_, m10_, m15_, ha, Q_HO_3, Q_BK138, Q_HI0, Q_HK, Q_HB, Q_HI0_e1, Q_HO147, Q_HA_HO147, Q_HI0_e4, Q_HO154, Q_HA_HO154, Q_HI0_e9, Q_HO161, Q_HA_HO161, Q_HI0_e14, Q_BK138_e18, Q_X5_, Q_X10_, Q_X15_⟩ hb_ hon hoff
     refine ⟨_, rfl, fun K hK => ?_⟩
     have e32 : a.tmps[32]? = some (.int .i64 t142) := by rw [ha]; exact putSel_on (e := (1, 32, .int .i64 t142)) 0 rfl rfl (hon 1 zG63) rfl
     have e37 : a.tmps[37]? = some (.int .i64 (rd y145 t148)) := by rw [ha]; exact putSel_on (e := (6, 37, .int .i64 (rd y145 t148))) 4 rfl rfl (hon 6 zG63) rfl
     have e42 : a.tmps[42]? = some (.int .i64 (rd y152 t155)) := by rw [ha]; exact putSel_on (e := (11, 42, .int .i64 (rd y152 t155))) 8 rfl rfl (hon 11 zG63) rfl
     have e47 : a.tmps[47]? = some (.int .i64 (rd y159 t162)) := by rw [ha]; exact putSel_on (e := (16, 47, .int .i64 (rd y159 t162))) 12 rfl rfl (hon 16 zG63) rfl
     replace ha := za ha
     obtain ⟨HO_3, BK138, HK, HB, HO147, HA_HO147, HO154, HA_HO154, HO161, HA_HO161, HI0⟩ := zD11 Q_HO_3 (Q_BK138 (hoff 18 zG63)) Q_HK Q_HB (Q_HO147 (hon 2 zG63)) (Q_HA_HO147 (hon 2 zG63)) (Q_HO154 (hon 7 zG63)) (Q_HA_HO154 (hon 7 zG63)) (Q_HO161 (hon 12 zG63)) (Q_HA_HO161 (hon 12 zG63)) (Q_HI0_e14 (hon 14 zG63))
     refine value_ (w1 := w') (v := .agg #[.int .i64 t142, .int .i64 (rd y145 t148), .int .i64 (rd y152 t155), .int .i64 (rd y159 t162)]) (by rfl) rfl ?_ ?_
     ·go_simp
      (try simp only [i64_w])
      try rfl
     refine hK.out _ _ ⟨v146, adz_v146, v153, adz_v153, v160, adz_v160, m5_, m10_, m15_, (by rw [ha.out]; exact putSel_upk 13 hb_ rfl rfl rfl), Q_HO_3, Q_BK138, fun h0_ => absurd ((hon 1 zG63).symm.trans h0_) zG64, Q_HK, Q_HB, fun _ h1_ => absurd ((hon 4 zG63).symm.trans h1_) zG64, Q_HO147, Q_HA_HO147, fun _ h1_ => absurd ((hon 9 zG63).symm.trans h1_) zG64, Q_HO154, Q_HA_HO154, fun _ h1_ => absurd ((hon 14 zG63).symm.trans h1_) zG64, Q_HO161, Q_HA_HO161, Q_HI0_e14, fun h0_ => absurd ((hoff 18 zG63).symm.trans h0_) zG64, Q_X5_, Q_X10_, Q_X15_⟩
    refine steps_cons ?_ ?_
    ·rintro b a w' ⟨v146, adz_v146, v153, adz_v153, v160, adz_v160, m5_, m10_, m15_, ha, Q_HO_3, Q_BK138, Q_HI0, Q_HK, Q_HB, Q_HI0_e1, Q_HO147, Q_HA_HO147, Q_HI0_e4, Q_HO154, Q_HA_HO154, Q_HI0_e9, Q_HO161, Q_HA_HO161, Q_HI0_e14, Q_BK138_e18, Q_X5_, Q_X10_, Q_X15_⟩ hb_ hon hoff
     refine ⟨_, rfl, fun K hK => ?_⟩
     have e5 : a.tmps[5]? = some (.pointer (some ⟨gb138, 0, none⟩)) := by rw [ha]; exact (putSel_off rfl).trans rfl
     have e48 : a.tmps[48]? = some (.agg #[.int .i64 t142, .int .i64 (rd y145 t148), .int .i64 (rd y152 t155), .int .i64 (rd y159 t162)]) := by rw [ha]; exact putSel_on (e := (17, 48, .agg #[.int .i64 t142, .int .i64 (rd y145 t148), .int .i64 (rd y152 t155), .int .i64 (rd y159 t162)])) 13 rfl rfl (hon 17 zG63) rfl
     replace ha := za ha
     obtain ⟨HO_3, BK138, HK, HB, HO147, HA_HO147, HO154, HA_HO154, HO161, HA_HO161, HI0⟩ := zD11 Q_HO_3 (Q_BK138 hb_) Q_HK Q_HB (Q_HO147 (hon 2 zG63)) (Q_HA_HO147 (hon 2 zG63)) (Q_HO154 (hon 7 zG63)) (Q_HA_HO154 (hon 7 zG63)) (Q_HO161 (hon 12 zG63)) (Q_HA_HO161 (hon 12 zG63)) (Q_HI0_e14 (hon 14 zG63))
     obtain ⟨co49, eo49⟩ := HA_HO147.out
     clear HA_HO147
     subst eo49
     obtain ⟨co50, eo50⟩ := HA_HO154.out
     clear HA_HO154
     subst eo50
     obtain ⟨co51, eo51⟩ := HA_HO161.out
     clear HA_HO161
     subst eo51
     have hs52 : w'.cell? ⟨gb138, 0, none⟩ = some (.int .i64 (wrap64 (1 + t126))) := (zb BK138.out 0).trans rfl
     have hfs52 := zd BK138.out 0
     have hs53 : w'.cell? ⟨gb138, 1, none⟩ = some (.int .i64 (wrap64 (1 + t129))) := (zb BK138.out 1).trans rfl
     have hfs53 := zd BK138.out 1
     have hs54 : w'.cell? ⟨gb138, 2, none⟩ = some (.int .i64 (wrap64 (1 + t132))) := (zb BK138.out 2).trans rfl
     have hfs54 := zd BK138.out 2
     have hs55 : w'.cell? ⟨gb138, 3, none⟩ = some (.int .i64 (wrap64 (1 + t135))) := (zb BK138.out 3).trans rfl
     have hfs55 := zd BK138.out 3
     refine skip_ (w1 := ?_) (by rfl) rfl ?_ ?_
     rotate_left
     ·go_simp
      rfl
     refine hK.out _ _ ⟨.slice (some adz_v146) y145.length co49, adz_v146, .slice (some adz_v153) y152.length co50, adz_v153, .slice (some adz_v160) y159.length co51, adz_v160, m5_, m10_, m15_, (by rw [ha.out]; exact putSel_none (v := undef) rfl), (by (with_reducible repeat (first | apply zl | apply zk | apply zm)); exact zn (zq (p := ⟨gb138, 3, none⟩) (zq (p := ⟨gb138, 2, none⟩) (zq (p := ⟨gb138, 1, none⟩) (zq (p := ⟨gb138, 0, none⟩) (zn HO_3.out (fun k_ hk => (⟨hk, hk⟩ : _ ∧ k_ ≠ gb138))) (fun _ hk => hk.2) (.int .i64 t142)) (fun _ hk => hk.2) (.int .i64 (rd y145 t148))) (fun _ hk => hk.2) (.int .i64 (rd y152 t155))) (fun _ hk => hk.2) (.int .i64 (rd y159 t162))) (fun _ hk => hk.1)), fun h0_ => absurd ((up_self b 18).symm.trans h0_) zG64, fun h0_ => absurd ((hon 1 zG63).symm.trans h0_) zG64, zG53, zK51, fun _ h1_ => absurd ((hon 4 zG63).symm.trans h1_) zG64, fun _ => (by (with_reducible repeat (first | apply zl | apply zk | apply zm)); exact zn (zq (p := ⟨gb138, 3, none⟩) (zq (p := ⟨gb138, 2, none⟩) (zq (p := ⟨gb138, 1, none⟩) (zq (p := ⟨gb138, 0, none⟩) (zae HO147.out BK138.out zG64) (fun _ hk => hk.2) (.int .i64 t142)) (fun _ hk => hk.2) (.int .i64 (rd y145 t148))) (fun _ hk => hk.2) (.int .i64 (rd y152 t155))) (fun _ hk => hk.2) (.int .i64 (rd y159 t162))) (fun _ hk => by first | exact trivial | exact ⟨hk.1.1, hk.1.2⟩)), fun _ => ⟨_, rfl⟩, fun _ h1_ => absurd ((hon 9 zG63).symm.trans h1_) zG64, fun _ => (by (with_reducible repeat (first | apply zl | apply zk | apply zm)); exact zn (zq (p := ⟨gb138, 3, none⟩) (zq (p := ⟨gb138, 2, none⟩) (zq (p := ⟨gb138, 1, none⟩) (zq (p := ⟨gb138, 0, none⟩) (zae HO154.out BK138.out zG64) (fun _ hk => hk.2) (.int .i64 t142)) (fun _ hk => hk.2) (.int .i64 (rd y145 t148))) (fun _ hk => hk.2) (.int .i64 (rd y152 t155))) (fun _ hk => hk.2) (.int .i64 (rd y159 t162))) (fun _ hk => by first | exact trivial | exact ⟨hk.1.1, hk.1.2⟩)), fun _ => ⟨_, rfl⟩, fun _ h1_ => absurd ((hon 14 zG63).symm.trans h1_) zG64, fun _ => (by (with_reducible repeat (first | apply zl | apply zk | apply zm)); exact zn (zq (p := ⟨gb138, 3, none⟩) (zq (p := ⟨gb138, 2, none⟩) (zq (p := ⟨gb138, 1, none⟩) (zq (p := ⟨gb138, 0, none⟩) (zae HO161.out BK138.out zG64) (fun _ hk => hk.2) (.int .i64 t142)) (fun _ hk => hk.2) (.int .i64 (rd y145 t148))) (fun _ hk => hk.2) (.int .i64 (rd y152 t155))) (fun _ hk => hk.2) (.int .i64 (rd y159 t162))) (fun _ hk => by first | exact trivial | exact ⟨hk.1.1, hk.1.2⟩)), fun _ => ⟨_, rfl⟩, fun _ => zK42, fun _ => (by (with_reducible repeat (first | refine zh ?_ _ | refine zj ?_ | refine zg ?_ _)); refine zr (cs := #[.int .i64 t142, .int .i64 (rd y145 t148), .int .i64 (rd y152 t155), .int .i64 (wrap64 (1 + t135))]) ?_ 3 _ rfl; (with_reducible repeat (first | refine zh ?_ _ | refine zj ?_ | refine zg ?_ _)); refine zr (cs := #[.int .i64 t142, .int .i64 (rd y145 t148), .int .i64 (wrap64 (1 + t132)), .int .i64 (wrap64 (1 + t135))]) ?_ 2 _ rfl; (with_reducible repeat (first | refine zh ?_ _ | refine zj ?_ | refine zg ?_ _)); refine zr (cs := #[.int .i64 t142, .int .i64 (wrap64 (1 + t129)), .int .i64 (wrap64 (1 + t132)), .int .i64 (wrap64 (1 + t135))]) ?_ 1 _ rfl; (with_reducible repeat (first | refine zh ?_ _ | refine zj ?_ | refine zg ?_ _)); refine zr (cs := #[.int .i64 (wrap64 (1 + t126)), .int .i64 (wrap64 (1 + t129)), .int .i64 (wrap64 (1 + t132)), .int .i64 (wrap64 (1 + t135))]) ?_ 0 _ rfl; (with_reducible repeat (first | refine zh ?_ _ | refine zj ?_ | refine zg ?_ _)); exact BK138.out), Q_X5_, Q_X10_, Q_X15_⟩
    exact steps_nil
   rintro b a w52 hall ⟨v146, adz_v146, v153, adz_v153, v160, adz_v160, m5_, m10_, m15_, ha, Q_HO_3, Q_BK138, Q_HI0, Q_HK, Q_HB, Q_HI0_e1, Q_HO147, Q_HA_HO147, Q_HI0_e4, Q_HO154, Q_HA_HO154, Q_HI0_e9, Q_HO161, Q_HA_HO161, Q_HI0_e14, Q_BK138_e18, Q_X5_, Q_X10_, Q_X15_⟩
   clear BK138 HB HI0 HK HO_3
   have hb1_ := hall 1 zG63
   have hb2_ := hall 2 zG63
   have hb4_ := hall 4 zG63
   have hb5_ := hall 5 zG63
   have hb6_ := hall 6 zG63
   have hb7_ := hall 7 zG63
   have hb9_ := hall 9 zG63
   have hb10_ := hall 10 zG63
   have hb11_ := hall 11 zG63
   have hb12_ := hall 12 zG63
   have hb14_ := hall 14 zG63
   have hb15_ := hall 15 zG63
   have hb16_ := hall 16 zG63
   have hb17_ := hall 17 zG63
   have hb18_ := hall 18 zG63
   subst ha
   obtain rfl := Q_X5_ hb5_
   obtain rfl := Q_X10_ hb10_
   obtain rfl := Q_X15_ hb15_
   simp only [putSel, hb1_, hb2_, hb4_, hb5_, hb6_, hb7_, hb9_, hb10_, hb11_, hb12_, hb14_, hb15_, hb16_, hb17_, hb18_, if_true, Act.put, List.setIfInBounds_toArray, List.set_cons_zero, List.set_cons_succ]
   obtain ⟨HO_3, HK, HB, HO147, HA_HO147, HO154, HA_HO154, HO161, HA_HO161, HI0, BK138⟩ := zD11 Q_HO_3 Q_HK Q_HB (Q_HO147 hb2_) (Q_HA_HO147 hb2_) (Q_HO154 hb7_) (Q_HA_HO154 hb7_) (Q_HO161 hb12_) (Q_HA_HO161 hb12_) (Q_HI0_e14 hb14_) (Q_BK138_e18 hb18_)
   clear Q_HO_3 Q_BK138 Q_HI0 Q_HK Q_HB Q_HI0_e1 Q_HO147 Q_HA_HO147 Q_HI0_e4 Q_HO154 Q_HA_HO154 Q_HI0_e9 Q_HO161 Q_HA_HO161 Q_HI0_e14 Q_BK138_e18 hall hb1_ hb2_ hb4_ hb5_ hb6_ hb7_ hb9_ hb10_ hb11_ hb12_ hb14_ hb15_ hb16_ hb17_ hb18_
   obtain ⟨co53, eo53⟩ := HA_HO147.out
   clear HA_HO147
   subst eo53
   obtain ⟨co54, eo54⟩ := HA_HO154.out
   clear HA_HO154
   subst eo54
   obtain ⟨co55, eo55⟩ := HA_HO161.out
   clear HA_HO161
   subst eo55
   obtain ⟨hcz56_0, hcz56_1, hcz56_2, hcz56_3, hfz56_0, hfz56_1, hfz56_2, hfz56_3⟩ := zB4 BK138.out
   try go_wp2_with (first | ((with_reducible refine gate_builtin (b := .append) (xs := #[.tmp 49, .tmp 51]) rfl ?_); at_builtin; refine Kd.R_append k54 w.heap.size rfl (.tmp 49) (.tmp 51) 23 54 (.agg #[(.int .i64 0), (.int .i64 0), (.int .i64 0), (.int .i64 0)]) 32 rfl Try.underlying23 info54 rfl zG64 (by omega) u3 x3_1 (⟨t142, rd y145 t148, rd y152 t155, rd y159 t162⟩ : S54) [.int .i64 t142, .int .i64 (rd y145 t148), .int .i64 (rd y152 t155), .int .i64 (rd y159 t162)] (fun k_ => k_ ≠ gb138) (fun _ => False) rfl rfl ?aP (fun _ hk => hk.elim) ?aF ?aO (Below.refl _ _) ?aS ?aL ?_; (case aP => exact k54_mkM _ _ _ (⟨t142, rd y145 t148, rd y152 t155, rd y159 t162⟩ : S54)); (case aF => exact (fun k_ hk => Kd.freshB (g := gb138) (o := .cells #[.int .i64 t142, .int .i64 (rd y145 t148), .int .i64 (rd y152 t155), .int .i64 (rd y159 t162)] 54 (0, 0)) zG61 k_ hk)); (case aO => exact zG62); (case aS => exact (keep_size (w := w) (g := g) (row := none) zG53)); (case aL => have := LMc25.out; omega); intro v167 w57 ho hb hg hat; rw [← Ny166.out] at ho; have n_ := zA_ (za (IsS66.grown (show IsS66 w0 _ g s0_0 t163 t164 from by repeat (first | (with_reducible first | exact HI0.out | apply IsS66.alloc | apply IsS66.drewN | apply IsS66.drew | apply IsS66.set_1 | apply IsS66.set_2 | refine IsS66.far ?_ (IsS66.ne_blk HI0.out BK138.out zG64) _ | refine IsS66.far ?_ NB0_138.out _) | exact HI0.out)) hg (IsS66.own_ne HI0.out HO_3.out zG64))) (zA_ (za (zar (g := gb138) (o := .cells #[.int .i64 t142, .int .i64 (rd y145 t148), .int .i64 (rd y152 t155), .int .i64 (rd y159 t162)] 54 (0, 0)) zG61 hg (Kd.R_away HO_3.out (fun _ hk => hk)))) (zA_ (za (Kd.R_over' (by (with_reducible repeat (first | apply zl | apply zk | apply zm)); exact HO147.out) (zat zG62) zG64 hg)) (zA_ (za (Kd.R_over' (by (with_reducible repeat (first | apply zl | apply zk | apply zm)); exact HO154.out) (zat zG62) zG64 hg)) (zA_ (za (Kd.R_over' (by (with_reducible repeat (first | apply zl | apply zk | apply zm)); exact HO161.out) (zat zG62) zG64 hg)) (zA_ (za (below_weaken zK51 HL.out hb)) (zA_ (za (zv zG53 (KeepBut.of_grown hg g) (Kd.R_base2 HO_3.out))) (za (ho)))))))); clear HI0 BK138 HO147 HO154 HO161 HB HK HO_3; obtain ⟨HI0, BK138, HO147, HO154, HO161, HB, HK, HO168⟩ := n_; clear ho hb hg hat))
   go_roundg k1
   case measure => have := HK1.out; omega
   case rel => exact ⟨(y166), (wrap64 (x4_1 - 1)), (t163), (t164), zK71, H', ⟨by have := HK1.out; omega⟩, ⟨by (with_reducible repeat (first | apply zl | apply zk | apply zm)); exact zn HO168.out (fun _ hk => trivial)⟩, ⟨zH7⟩, ⟨zH14⟩, ⟨zH16⟩⟩
/-! ### spec_CartsOf: function 5 -/
def spec_CartsOf.f (k : Nat) (l0 : List Int) : Option (Int × (List (S54))) := (spec_l00Source.f l0).bind fun bt172 => ((spec_l00Src_next.f bt172.1 bt172.2.1 bt172.2.2 40).bind fun bt176 => ((spec_l00Src_cartActs.f k bt172.1 bt176.2.1 bt176.2.2).bind fun bt179 => (some (bt176.1, bt179.1))))
theorem spec_CartsOf.mono : ∀ a0 k, LeO (spec_CartsOf.f k a0) (spec_CartsOf.f (k + 1) a0) := by
 intro a0 k
 unfold spec_CartsOf.f
 repeat' first
   | (with_reducible exact spec_l00Src_cartActs.mono _ _ _ _)
   | (with_reducible exact LeO.refl _)
   | (with_reducible exact LeO.none _)
   | (with_reducible refine LeO.ite ?_ ?_)
   | (with_reducible refine LeO.bind ?_ (fun _ => ?_))
   | exact spec_l00Src_cartActs.mono _ _ _ _
   | exact LeO.none _
   | refine LeO.ite ?_ ?_
   | refine LeO.bind ?_ (fun _ => ?_)
set_option maxHeartbeats 64000000 in
set_option maxRecDepth 100000 in
theorem spec_CartsOf.calls (k : Nat) (A0 : Option Addr) (c0 : Nat) (l0 : List Int) (r1 : Int) (r2 : List (S54)) (w : World) (hr0 : Kd.C (Kd.int .u8) w A0 l0.length l0) (hc0 : l0.length ≤ c0) (h : spec_CartsOf.f k l0 = some (r1, r2)) :
  Calls Try.prog 5 #[.slice A0 l0.length c0] w fun e w' => ∃ v1_ : Value, e = .returned (.tuple #[.int .i64 r1, v1_]) ∧ Kd.R k54 54 w' w.heap.size (fun _ => True) v1_ r2 ∧ Below w.heap.size w w' := by
 obtain ⟨HR0, HC0, HB⟩ := zD3 hr0 hc0 (Below.refl w.heap.size w)
 clear hr0 hc0
 have H : ((spec_l00Source.f l0).bind fun bt172 => ((spec_l00Src_next.f bt172.1 bt172.2.1 bt172.2.2 40).bind fun bt176 => ((spec_l00Src_cartActs.f k bt172.1 bt176.2.1 bt176.2.2).bind fun bt179 => (some (bt176.1, bt179.1))))) = some (r1, r2) := h
 clear h
 replace H := Option.bind_eq_some_iff.mp H
 obtain ⟨⟨t172, t173, t174⟩, A20, H⟩ := H
 replace H : ((spec_l00Src_next.f t172 t173 t174 40).bind fun bt176 => ((spec_l00Src_cartActs.f k t172 bt176.2.1 bt176.2.2).bind fun bt179 => (some (bt176.1, bt179.1)))) = some (r1, r2) := H
 have A2 := za A20
 clear A20
 replace H := Option.bind_eq_some_iff.mp H
 obtain ⟨⟨t176, t177, t178⟩, A30, H⟩ := H
 replace H : ((spec_l00Src_cartActs.f k t172 t177 t178).bind fun bt179 => (some (t176, bt179.1))) = some (r1, r2) := H
 have A3 := za A30
 clear A30
 replace H := Option.bind_eq_some_iff.mp H
 obtain ⟨⟨t179, t182, t183⟩, A40, H⟩ := H
 replace H : (some (t176, t179)) = some (r1, r2) := H
 have A4 := za A40
 clear A40
 simp only [Option.some.injEq, Prod.mk.injEq] at H
 obtain ⟨rfl, rfl⟩ := H
 go_enter Try.func5, Try.ntmps5
 go_wp2_with (first | ((with_reducible refine gate_callee (f := 19) rfl ?_); refine goesL_ (some 6) rfl rfl Try.func19 zG63 rfl #[.slice A0 l0.length c0] rfl zG54 ?_; (with_reducible refine (spec_l00Source.calls _ _ l0 t172 t173 t174 w _ ?side1 ?side2 ?side3 A2.out).mono ?_); (case side1 => repeat (first | (with_reducible first | exact HB.out | apply zf | apply zc | apply ze) | exact HB.out)); (case side2 => exact HR0.out); (case side3 => exact HC0.out); rintro e w5 ⟨g175, rfl, hi, hb, hb2⟩; refine ⟨_, rfl, ?_⟩; have n_ := zA_ (za (hb)) (za (hi)); clear HB; obtain ⟨HB, HI175⟩ := n_; (try clear hb); (try clear hb2); (try clear hk); (try clear hi)) | ((with_reducible refine gate_callee (f := 20) rfl ?_); refine goesL_ (some 8) rfl rfl Try.func20 zG63 rfl #[.pointer (some ⟨g175, 0, none⟩), .int .i64 40] rfl zG54 ?_; (with_reducible refine (spec_l00Src_next.calls g175 t172 t173 t174 40 t176 t177 t178 w _ ?side1 ?side2 A3.out).mono ?_); (case side1 => exact zH12); (case side2 => exact zH25); rintro e w6 ⟨rfl, hi, hb, hk⟩; refine ⟨_, rfl, ?_⟩; have n_ := zA_ (za (hb)) (za (hi)); clear HB HI175; obtain ⟨HB, HI175⟩ := n_; (try clear hb); (try clear hb2); (try clear hk); (try clear hi)) | ((with_reducible refine gate_callee (f := 21) rfl ?_); refine goesL_ (some 10) rfl rfl Try.func21 zG63 rfl #[.pointer (some ⟨g175, 0, none⟩)] rfl zG54 ?_; (with_reducible refine (spec_l00Src_cartActs.calls k g175 t172 t177 t178 t179 t182 t183 w _ ?side1 ?side2 A4.out).mono ?_); (case side1 => exact zH12); (case side2 => exact zH25); rintro e w7 ⟨v180, rfl, ho0, hi, hb, hk⟩; refine ⟨_, rfl, ?_⟩; have n_ := zA_ (za (zah ho0 (zs (by repeat (first | (with_reducible first | exact HB.out | apply zf | apply zc | apply ze | refine zi ?_ (IsS66.ge HI175.out)) | exact HB.out))))) (zA_ (za (hb)) (za (hi))); clear HB HI175; obtain ⟨HO181, HB, HI175⟩ := n_; (try clear hb); (try clear hb2); (try clear hk); (try clear hi); (try clear ho0)))
 go_ret2
 exact ⟨_, zH33, by (with_reducible repeat (first | apply zl | apply zk | apply zm)); exact HO181.out, by repeat (first | (with_reducible first | exact HB.out | apply zf | apply zc | apply ze | refine zi ?_ (IsS66.ge HI175.out)) | exact HB.out)⟩

end Go.Proofs.Ytdohpbhljifodaa.D
