-- squeezed
-- made by pp.py (wip/tools) out of the translation; Lean checks it
import Derived.Test.YtojncbpeeboooaaT0
import Derived.Test.YtojncbpeeboooaaT3
namespace Go.Proofs.Ytojncbpeeboooaa.T
open Go.RowKit Go.Proofs.YtojncbpeeboooaaW.PrintWords Go.Proofs.YtojncbpeeboooaaW.PrintLast Go.Proofs.YtojncbpeeboooaaW.PrintMore
attribute [local go_sem] max2_int min2_int max_two min_two max_three min_three max_four min_four   -- for this text's walks alone
set_option linter.unusedVariables false
set_option linter.unusedSimpArgs false

abbrev b4A0 : Array Bool := #[true, true, true, true, true, true, true, true, true, true, true, true, true, true, false, false]
abbrev b4A1 : Array Bool := #[false, false, false, false, false, false, false, false, false, false, false, false, false, false, false, false]
abbrev b4A2 : Array Bool := #[true, false, false, false, false, false, false, false, false, false, false, false, false, false, false, false]
abbrev b4A3 : Array Bool := #[true, true, false, false, false, false, false, false, false, false, false, false, false, false, false, false]
abbrev b4A4 : Array Bool := #[true, true, true, false, false, false, false, false, false, false, false, false, false, false, false, false]
abbrev b4A5 : Array Bool := #[true, true, true, false, true, false, false, false, false, false, false, false, false, false, false, false]
abbrev b4A6 : Array Bool := #[true, true, true, false, true, true, false, false, false, false, false, false, false, false, false, false]
abbrev b4A7 : Array Bool := #[true, true, true, false, true, true, true, false, false, false, false, false, false, false, false, false]
abbrev b4A8 : Array Bool := #[true, true, true, false, true, true, true, false, true, false, false, false, false, false, false, false]
abbrev b4A9 : Array Bool := #[true, true, true, true, true, true, true, false, true, false, false, false, false, false, false, false]
abbrev b4A10 : Array Bool := #[true, true, true, true, true, true, true, true, true, false, false, false, false, false, false, false]
abbrev b4A11 : Array Bool := #[true, true, true, true, true, true, true, true, true, true, false, false, false, false, false, false]
abbrev b4A12 : Array Bool := #[true, true, true, true, true, true, true, true, true, false, false, false, false, true, false, false]
abbrev b4A13 : Array Bool := #[true, true, true, true, true, true, true, true, true, true, true, false, false, false, false, false]
abbrev b4A14 : Array Bool := #[true, true, true, true, true, true, true, true, true, true, true, true, false, false, false, false]
abbrev b4A15 : Array Bool := #[true, true, true, true, true, true, true, true, true, true, true, true, true, false, false, false]
abbrev b4A16 : Array Bool := #[true, true, true, true, true, true, true, true, true, true, false, false, false, true, false, false]
abbrev b4A17 : Array Bool := #[true, true, true, true, true, true, true, true, true, true, true, false, false, true, false, false]
abbrev b4A18 : Array Bool := #[true, true, true, true, true, true, true, true, true, true, true, true, false, true, false, false]
abbrev b4A19 : Array Bool := #[true, true, true, true, true, true, true, true, true, true, true, true, true, true, true, false]
abbrev b4A20 : Array Bool := #[true, true, true, true, true, true, true, true, true, true, true, true, true, true, true, true]
abbrev b4A21 : Array Bool := #[false, false, false, false, false, false, false, false, false, false, false, false, false, false, false]
abbrev b4A22 : Array Bool := #[true, false, false, false, false, false, false, false, false, false, false, false, false, false, false]
abbrev b4A23 : Array Bool := #[true, true, false, false, false, false, false, false, false, false, false, false, false, false, false]
abbrev b4A24 : Array Bool := #[true, true, true, false, false, false, false, false, false, false, false, false, false, false, false]
abbrev b4A25 : Array Bool := #[true, true, true, true, false, false, false, false, false, false, false, false, false, false, false]
abbrev b4A26 : Array Bool := #[true, true, true, true, true, false, false, false, false, false, false, false, false, false, false]
abbrev b4A27 : Array Bool := #[true, true, true, true, true, true, false, false, false, false, false, false, false, false, false]
abbrev b4A28 : Array Bool := #[true, true, true, true, true, true, true, false, false, false, false, false, false, false, false]
abbrev b4A29 : Array Bool := #[true, true, true, true, true, true, true, true, true, true, true, true, false, false, false]
abbrev b4A30 : Array Bool := #[true, true, true, true, true, true, true, true, true, true, true, true, true, false, false]
abbrev b4A31 : Array Bool := #[true, true, true, true, true, true, true, true, true, true, true, true, true, true, false]
abbrev b4A32 : Array Bool := #[true, true, true, true, true, true, true, true, true, true, true, true, true, true, true]
abbrev b4A33 : Array Bool := #[true, true, true, true, true, true, true, false, true, false, false, false, false, false, false]
abbrev b4A34 : Array Bool := #[true, true, true, true, true, true, true, false, true, true, false, false, false, false, false]
abbrev b4A35 : Array Bool := #[true, true, true, true, true, true, true, false, true, true, true, false, false, false, false]
abbrev b4A36 : Array Bool := #[true, true, true, true, true, true, true, false, true, true, true, true, false, false, false]
/-! ### spec_l20Search_try: function 69 -/
mutual
def spec_l20Search_try.l0 : Nat → List Int → Int → List (S37) → Int → List Int → List Int → Int → Int → Bool → Option (List Int × List Int × Int × Int × Bool)
 | 0, _, _, _, _, _, _, _, _, _ => none
 | k + 1, x1, x6, x1000, x1001, x1002, x1003, x1004, x1005, x1006 => if x6 < (x1000.length : Int) then (spec_l20Search_try.l1 k x1 x6 false 0 x1000 x1001 x1002 x1003 x1004 x1005 x1006) else (some (x1002, x1003, x1004, x1005, x1006))
def spec_l20Search_try.l1 : Nat → List Int → Int → Bool → Int → List (S37) → Int → List Int → List Int → Int → Int → Bool → Option (List Int × List Int × Int × Int × Bool)
 | 0, _, _, _, _, _, _, _, _, _, _, _ => none
 | k + 1, x1, x6, x7, x8, x1000, x1001, x1002, x1003, x1004, x1005, x1006 => if x8 < (x1.length : Int) then (if x7 = true then (spec_l20Search_try.l1 k x1 x6 true (wrap64 (x8 + 1)) x1000 x1001 x1002 x1003 x1004 x1005 x1006) else (if 0 ≤ x8 then (spec_l20Search_try.l1 k x1 x6 ((rd x1 x8) == x6) (wrap64 (x8 + 1)) x1000 x1001 x1002 x1003 x1004 x1005 x1006) else (none))) else (if x7 = true then (spec_l20Search_try.l0 k x1 (wrap64 (x6 + 1)) x1000 x1001 x1002 x1003 x1004 x1005 x1006) else ((some (([] : List Int) : List Int)).bind fun y225 => (if y225.length + x1.length < 17592186044416 then ((some (y225 ++ x1 : List Int)).bind fun y228 => (if y228.length < 17592186044416 then ((spec_l20Search_try.f k x1000 x1001 x1002 x1003 x1004 x1005 x1006 (y228 ++ [x6])).bind fun bt234 => (spec_l20Search_try.l0 k x1 (wrap64 (x6 + 1)) x1000 x1001 bt234.1 bt234.2.1 bt234.2.2.1 bt234.2.2.2.1 bt234.2.2.2.2)) else (none))) else (none))))
def spec_l20Search_try.f : Nat → List (S37) → Int → List Int → List Int → Int → Int → Bool → List Int → Option (List Int × List Int × Int × Int × Bool)
 | 0, _, _, _, _, _, _, _, _ => none
 | k + 1, l0_0, a0_1, l0_2, l0_3, a0_4, a0_5, a0_6, l1 => (spec_l20Route.f k l0_0 a0_1 l1).bind fun bt214 => (if bt214.2.2.2.2 = true then (if (l1.length : Int) = (l0_0.length : Int) then (if a0_6 = true then (if bt214.2.2.2.1 < a0_5 then (some (bt214.1, bt214.2.1, bt214.2.2.1, bt214.2.2.2.1, true)) else (some (l0_2, l0_3, a0_4, a0_5, a0_6))) else (some (bt214.1, bt214.2.1, bt214.2.2.1, bt214.2.2.2.1, true))) else (spec_l20Search_try.l0 k l1 0 l0_0 a0_1 l0_2 l0_3 a0_4 a0_5 a0_6)) else (some (l0_2, l0_3, a0_4, a0_5, a0_6)))
end
theorem spec_l20Search_try.mono_l : ∀ k, (∀ y0 y1 y2 y3 y4 y5 y6 y7, LeO (spec_l20Search_try.f k y0 y1 y2 y3 y4 y5 y6 y7) (spec_l20Search_try.f (k + 1) y0 y1 y2 y3 y4 y5 y6 y7)) ∧ (∀ y0 y1 y2 y3 y4 y5 y6 y7 y8, LeO (spec_l20Search_try.l0 k y0 y1 y2 y3 y4 y5 y6 y7 y8) (spec_l20Search_try.l0 (k + 1) y0 y1 y2 y3 y4 y5 y6 y7 y8)) ∧ (∀ y0 y1 y2 y3 y4 y5 y6 y7 y8 y9 y10, LeO (spec_l20Search_try.l1 k y0 y1 y2 y3 y4 y5 y6 y7 y8 y9 y10) (spec_l20Search_try.l1 (k + 1) y0 y1 y2 y3 y4 y5 y6 y7 y8 y9 y10))
 | 0 => ⟨fun _ _ _ _ _ _ _ _ r h => by simp [spec_l20Search_try.f] at h, fun _ _ _ _ _ _ _ _ _ r h => by simp [spec_l20Search_try.l0] at h, fun _ _ _ _ _ _ _ _ _ _ _ r h => by simp [spec_l20Search_try.l1] at h⟩
 | k + 1 => by
  obtain ⟨ih0, ih1, ih2⟩ := spec_l20Search_try.mono_l k
  refine ⟨?_, ?_, ?_⟩
  ·intro y0 y1 y2 y3 y4 y5 y6 y7
   unfold spec_l20Search_try.f
   repeat' first
   | (with_reducible exact ih0 _ _ _ _ _ _ _ _)
   | (with_reducible exact ih1 _ _ _ _ _ _ _ _ _)
   | (with_reducible exact ih2 _ _ _ _ _ _ _ _ _ _ _)
   | (with_reducible exact spec_l20Route.mono _ _ _ _)
   | (with_reducible exact LeO.refl _)
   | (with_reducible exact LeO.none _)
   | (with_reducible refine LeO.ite ?_ ?_)
   | (with_reducible refine LeO.bind ?_ (fun _ => ?_))
   | exact ih0 _ _ _ _ _ _ _ _
   | exact ih1 _ _ _ _ _ _ _ _ _
   | exact ih2 _ _ _ _ _ _ _ _ _ _ _
   | exact spec_l20Route.mono _ _ _ _
   | exact LeO.none _
   | refine LeO.ite ?_ ?_
   | refine LeO.bind ?_ (fun _ => ?_)
  ·intro y0 y1 y2 y3 y4 y5 y6 y7 y8
   unfold spec_l20Search_try.l0
   repeat' first
   | (with_reducible exact ih0 _ _ _ _ _ _ _ _)
   | (with_reducible exact ih1 _ _ _ _ _ _ _ _ _)
   | (with_reducible exact ih2 _ _ _ _ _ _ _ _ _ _ _)
   | (with_reducible exact spec_l20Route.mono _ _ _ _)
   | (with_reducible exact LeO.refl _)
   | (with_reducible exact LeO.none _)
   | (with_reducible refine LeO.ite ?_ ?_)
   | (with_reducible refine LeO.bind ?_ (fun _ => ?_))
   | exact ih0 _ _ _ _ _ _ _ _
   | exact ih1 _ _ _ _ _ _ _ _ _
   | exact ih2 _ _ _ _ _ _ _ _ _ _ _
   | exact spec_l20Route.mono _ _ _ _
   | exact LeO.none _
   | refine LeO.ite ?_ ?_
   | refine LeO.bind ?_ (fun _ => ?_)
  ·intro y0 y1 y2 y3 y4 y5 y6 y7 y8 y9 y10
   unfold spec_l20Search_try.l1
   repeat' first
   | (with_reducible exact ih0 _ _ _ _ _ _ _ _)
   | (with_reducible exact ih1 _ _ _ _ _ _ _ _ _)
   | (with_reducible exact ih2 _ _ _ _ _ _ _ _ _ _ _)
   | (with_reducible exact spec_l20Route.mono _ _ _ _)
   | (with_reducible exact LeO.refl _)
   | (with_reducible exact LeO.none _)
   | (with_reducible refine LeO.ite ?_ ?_)
   | (with_reducible refine LeO.bind ?_ (fun _ => ?_))
   | exact ih0 _ _ _ _ _ _ _ _
   | exact ih1 _ _ _ _ _ _ _ _ _
   | exact ih2 _ _ _ _ _ _ _ _ _ _ _
   | exact spec_l20Route.mono _ _ _ _
   | exact LeO.none _
   | refine LeO.ite ?_ ?_
   | refine LeO.bind ?_ (fun _ => ?_)
theorem spec_l20Search_try.mono : ∀ a0 a1 a2 a3 a4 a5 a6 a7 k, LeO (spec_l20Search_try.f k a0 a1 a2 a3 a4 a5 a6 a7) (spec_l20Search_try.f (k + 1) a0 a1 a2 a3 a4 a5 a6 a7) := by
 intro a0 a1 a2 a3 a4 a5 a6 a7 k
 obtain ⟨ih0, ih1, ih2⟩ := spec_l20Search_try.mono_l k
 exact ih0 a0 a1 a2 a3 a4 a5 a6 a7
def spec_l20Search_try.T0 : Bool × List (List Nat × List Nat) := (true, [([], []), ([0], [0]), ([1], [1]), ([2], [2]), ([], []), ([4], [4]), ([5], [5]), ([6], [6]), ([], []), ([3, 7, 8], [3, 7, 8]), ([9], [9]), ([10], [10]), ([10], [10]), ([], []), ([13, 11, 9, 0, 1, 2, 3, 4, 5, 6, 7, 8, 9, 10, 11, 13], [11, 13]), ([12, 14, 0, 1, 2, 3, 4, 5, 6, 7, 8, 9, 10, 11, 12, 13, 14], [12])])
def spec_l20Search_try.B0 : List Nat := [0, 1, 3, 7, 0, 16, 48, 112, 0, 511, 1023, 2047, 2047, 0, 12287, 32767]
theorem spec_l20Search_try.tab0 : rtab .any (opsOf Try.f69 0) = spec_l20Search_try.T0 := by kernel_rfl
theorem spec_l20Search_try.bits0 : waitsOk spec_l20Search_try.T0.2 spec_l20Search_try.B0 = true := by kernel_rfl
def spec_l20Search_try.T3 : Bool × List (List Nat × List Nat) := (true, [([], []), ([0], [0]), ([1], [1]), ([2], [2]), ([3], [3]), ([4], [4]), ([5], [5]), ([6, 5], [5, 6]), ([5], [5]), ([8, 5], [5, 8]), ([9, 5], [5, 9]), ([10, 5], [5, 10]), ([11, 5], [5, 11]), ([7, 12, 5], [5, 7, 12]), ([5, 13], [5, 13])])
def spec_l20Search_try.B3 : List Nat := [0, 1, 3, 7, 15, 31, 63, 127, 63, 319, 831, 1855, 3903, 8191, 16383]
theorem spec_l20Search_try.tab3 : rtab .any (opsOf Try.f69 3) = spec_l20Search_try.T3 := by kernel_rfl
theorem spec_l20Search_try.bits3 : waitsOk spec_l20Search_try.T3.2 spec_l20Search_try.B3 = true := by kernel_rfl
set_option maxHeartbeats 8000000 in
set_option maxRecDepth 100000 in
theorem spec_l20Search_try.calls (k : Nat) : ∀ (gi0 : Nat) (A0_0 : Option Addr) (c0_0 : Nat) (l0_0 : List (S37)) (a0_1 : Int) (P0_2_ : Nat → Prop) (u9000_ : Value) (l0_2 : List Int) (P0_3_ : Nat → Prop) (u9001_ : Value) (l0_3 : List Int) (a0_4 : Int) (a0_5 : Int) (a0_6 : Bool) (A1 : Option Addr) (c1 : Nat) (l1 : List Int) (r1 : List Int) (r2 : List Int) (r3 : Int) (r4 : Int) (r5 : Bool) (w0 w : World) (hB : Below w0.heap.size w0 w) (hbk0 : w.heap[gi0]? = some (.cells #[.slice A0_0 l0_0.length c0_0, .int .i64 a0_1, u9000_, u9001_, .int .i64 a0_4, .int .i64 a0_5, .bool a0_6] 113 (0, 0))) (hge0 : w0.heap.size ≤ gi0) (hr0_0 : ∀ W_, Kept w W_ (fun k_ => (P0_2_ k_ ∨ P0_3_ k_) ∨ k_ = gi0) → Kd.C k37 W_ A0_0 l0_0.length l0_0) (hc0_0 : l0_0.length ≤ c0_0) (ho0_2 : Kd.R (Kd.int .i64) 3 w w0.heap.size P0_2_ u9000_ l0_2) (hp0_2_0_3 : ∀ k_, P0_2_ k_ → ¬ P0_3_ k_) (ho0_3 : Kd.R (Kd.int .i64) 3 w w0.heap.size P0_3_ u9001_ l0_3) (hp0_3_0_2 : ∀ k_, P0_3_ k_ → ¬ P0_2_ k_) (hr1 : ∀ W_, Kept w W_ (fun k_ => (P0_2_ k_ ∨ P0_3_ k_) ∨ k_ = gi0) → Kd.C (Kd.int .i64) W_ A1 l1.length l1) (hc1 : l1.length ≤ c1) (h : spec_l20Search_try.f k l0_0 a0_1 l0_2 l0_3 a0_4 a0_5 a0_6 l1 = some (r1, r2, r3, r4, r5)),
  Calls Try.prog 69 #[.pointer (some ⟨gi0, 0, none⟩), .slice A1 l1.length c1] w fun e w' => ∃ v0_ v1_ : Value, e = .returned (.tuple #[]) ∧ Kd.R (Kd.int .i64) 3 w' w0.heap.size (fun k_ => ((P0_2_ k_ ∨ P0_3_ k_) ∨ w.heap.size ≤ k_) ∧ some k_ ≠ (v1_ : Value).ownBlock) v0_ r1 ∧ Kd.R (Kd.int .i64) 3 w' w0.heap.size (fun k_ => ((P0_2_ k_ ∨ P0_3_ k_) ∨ w.heap.size ≤ k_) ∧ some k_ ≠ (v0_ : Value).ownBlock) v1_ r2 ∧ w'.heap[gi0]? = some (.cells #[.slice A0_0 l0_0.length c0_0, .int .i64 a0_1, v0_, v1_, .int .i64 r3, .int .i64 r4, .bool r5] 113 (0, 0)) ∧ Below w0.heap.size w0 w' ∧ Kept w w' (fun k_ => (P0_2_ k_ ∨ P0_3_ k_) ∨ k_ = gi0) := by
 induction k using Nat.strongRecOn with
 | _ k ih =>
 intro gi0 A0_0 c0_0 l0_0 a0_1 P0_2_ u9000_ l0_2 P0_3_ u9001_ l0_3 a0_4 a0_5 a0_6 A1 c1 l1 r1 r2 r3 r4 r5 w0 w hB hbk0 hge0 hr0_0 hc0_0 ho0_2 hp0_2_0_3 ho0_3 hp0_3_0_2 hr1 hc1 h
 cases k with
 | zero => exact absurd h (by simp [spec_l20Search_try.f])
 | succ k =>
 simp only [spec_l20Search_try.f] at h
 have hu28 := Try.underlying28
 have HR0_0 := za hr0_0
 have HC0_0 := za hc0_0
 clear hr0_0 hc0_0
 have HO0_2 := za (show Kd.R (Kd.int .i64) 3 w w0.heap.size (fun k_ => ((P0_2_ k_ ∨ P0_3_ k_) ∨ w.heap.size ≤ k_) ∧ some k_ ≠ (u9001_ : Value).ownBlock) u9000_ l0_2 from zp ho0_2 (fun k_ hk => ⟨(.inl (.inl hk)), fun e_ => hp0_2_0_3 k_ hk (ho0_3.1 k_ e_.symm)⟩))
 have HO0_3 := za (show Kd.R (Kd.int .i64) 3 w w0.heap.size (fun k_ => ((P0_2_ k_ ∨ P0_3_ k_) ∨ w.heap.size ≤ k_) ∧ some k_ ≠ (u9000_ : Value).ownBlock) u9001_ l0_3 from zp ho0_3 (fun k_ hk => ⟨(.inl (.inr hk)), fun e_ => hp0_3_0_2 k_ hk (ho0_2.1 k_ e_.symm)⟩))
 have HR1 := za hr1
 have HC1 := za hc1
 clear hr1 hc1
 have BK0 := za hbk0
 clear hbk0
 have GE0 := za hge0
 clear hge0
 have HK := za (Kept.refl w (fun k_ => (P0_2_ k_ ∨ P0_3_ k_) ∨ k_ = gi0))
 have HW0 := za hB.size
 have HB := za hB
 clear hB
 have H : ((spec_l20Route.f k l0_0 a0_1 l1).bind fun bt214 => (if bt214.2.2.2.2 = true then (if (l1.length : Int) = (l0_0.length : Int) then (if a0_6 = true then (if bt214.2.2.2.1 < a0_5 then (some (bt214.1, bt214.2.1, bt214.2.2.1, bt214.2.2.2.1, true)) else (some (l0_2, l0_3, a0_4, a0_5, a0_6))) else (some (bt214.1, bt214.2.1, bt214.2.2.1, bt214.2.2.2.1, true))) else (spec_l20Search_try.l0 k l1 0 l0_0 a0_1 l0_2 l0_3 a0_4 a0_5 a0_6)) else (some (l0_2, l0_3, a0_4, a0_5, a0_6)))) = some (r1, r2, r3, r4, r5) := h
 clear h
 replace H := Option.bind_eq_some_iff.mp H
 obtain ⟨⟨t214, t217, t220, t221, t222⟩, A30, H⟩ := H
 replace H : (if t222 = true then (if (l1.length : Int) = (l0_0.length : Int) then (if a0_6 = true then (if t221 < a0_5 then (some (t214, t217, t220, t221, true)) else (some (l0_2, l0_3, a0_4, a0_5, a0_6))) else (some (t214, t217, t220, t221, true))) else (spec_l20Search_try.l0 k l1 0 l0_0 a0_1 l0_2 l0_3 a0_4 a0_5 a0_6)) else (some (l0_2, l0_3, a0_4, a0_5, a0_6))) = some (r1, r2, r3, r4, r5) := H
 have A3 := za A30
 clear A30
 by_cases c4 : t222 = true
 rotate_left
 ·replace c4 := Bool.eq_false_iff.mpr c4
  subst c4
  have H1 : (some (l0_2, l0_3, a0_4, a0_5, a0_6)) = some (r1, r2, r3, r4, r5) := by rw [if_neg (show ¬ (false = true) by decide)] at H; exact H
  clear H
  have H := H1
  clear H1
  simp only [Option.some.injEq, Prod.mk.injEq] at H
  obtain ⟨rfl, rfl, rfl, rfl, rfl⟩ := H
  go_enter Try.func69, Try.ntmps69
  try go_wp2
  have n0_ := za (zm HO0_2.out)
  have n1_ := za (zm HO0_3.out)
  have n2_ := za (zd BK0.out)
  have n3_ := za (Kept.drew HK.out)
  have n4_ := za (zi HB.out)
  clear HO0_2
  clear HO0_3
  clear BK0
  clear HK
  clear HB
  have HO0_2 := n0_
  have HO0_3 := n1_
  have BK0 := n2_
  have HK := n3_
  have HB := n4_
  clear n0_ n1_ n2_ n3_ n4_
  refine start_ (n := 16) (S := fun w' => w'.cell? ⟨gi0, 0, none⟩ = some (.slice A0_0 l0_0.length c0_0) ∧ w'.cell? ⟨gi0, 1, none⟩ = some (.int .i64 a0_1) ∧ w'.cell? ⟨gi0, 2, none⟩ = some (u9000_) ∧ w'.cell? ⟨gi0, 3, none⟩ = some (u9001_) ∧ w'.cell? ⟨gi0, 4, none⟩ = some (.int .i64 a0_4) ∧ w'.cell? ⟨gi0, 5, none⟩ = some (.int .i64 a0_5) ∧ w'.cell? ⟨gi0, 6, none⟩ = some (.bool a0_6)) (ds := []) b4A1 zG101 rfl rfl ⟨(zg BK0.out 0).trans rfl, (zg BK0.out 1).trans rfl, (zg BK0.out 2).trans rfl, (zg BK0.out 3).trans rfl, (zg BK0.out 4).trans rfl, (zg BK0.out 5).trans rfl, (zg BK0.out 6).trans rfl⟩ (fun hHeld => ?_); refine with_tabW spec_l20Search_try.tab0 spec_l20Search_try.bits0 (fun HT_ HW_ => ?_)
  generalize w.drew = w86 at HO0_2 HO0_3 BK0 HK HB hHeld ⊢
  refine pure_ (i := 0) (N := some 10) (v := ?_) (a' := ?_) b4A2 rfl rfl (any_of HT_.out zG101) (fun _ _ _ h => h) (Or.inl ⟨by rfl, ?_⟩) ?_ ?_
  rotate_left
  ·intro w'
   go_simp
   with_reducible rfl
  rotate_left
  ·simp only [Act.put, List.setIfInBounds_toArray, List.set_cons_zero, List.set_cons_succ, i64_w, i32_w]
   rfl
  refine pure_ (i := 1) (N := some 11) (v := ?_) (a' := ?_) b4A3 rfl rfl (any_of HT_.out zG101) (fun _ _ _ h => h) (Or.inl ⟨by rfl, ?_⟩) ?_ ?_
  rotate_left
  ·intro w'
   go_simp
   with_reducible rfl
  rotate_left
  ·simp only [Act.put, List.setIfInBounds_toArray, List.set_cons_zero, List.set_cons_succ, i64_w, i32_w]
   rfl
  refine pure_ (i := 2) (N := some 12) (v := ?_) (a' := ?_) b4A4 rfl rfl (any_of HT_.out zG101) (fun _ _ _ h => h) (Or.inl ⟨by rfl, ?_⟩) ?_ ?_
  rotate_left
  ·intro w'
   go_simp
   with_reducible rfl
  rotate_left
  ·simp only [Act.put, List.setIfInBounds_toArray, List.set_cons_zero, List.set_cons_succ, i64_w, i32_w]
   rfl
  refine pure_ (i := 4) (N := some 14) (v := ?_) (a' := ?_) b4A5 rfl rfl (any_of HT_.out zG101) (fun _ _ _ h => h) (Or.inl ⟨by rfl, ?_⟩) ?_ ?_
  rotate_left
  ·intro w'
   go_simp
   with_reducible rfl
  rotate_left
  ·simp only [Act.put, List.setIfInBounds_toArray, List.set_cons_zero, List.set_cons_succ, i64_w, i32_w]
   rfl
  refine pure_ (i := 5) (N := some 15) (v := ?_) (a' := ?_) b4A6 rfl rfl (any_of HT_.out zG101) (fun _ _ _ h => h) (Or.inl ⟨by rfl, ?_⟩) ?_ ?_
  rotate_left
  ·intro w'
   go_simp
   with_reducible rfl
  rotate_left
  ·simp only [Act.put, List.setIfInBounds_toArray, List.set_cons_zero, List.set_cons_succ, i64_w, i32_w]
   rfl
  refine pure_ (i := 6) (N := some 16) (v := ?_) (a' := ?_) b4A7 rfl rfl (any_of HT_.out zG101) (fun _ _ _ h => h) (Or.inl ⟨by rfl, ?_⟩) ?_ ?_
  rotate_left
  ·intro w'
   go_simp
   with_reducible rfl
  rotate_left
  ·simp only [Act.put, List.setIfInBounds_toArray, List.set_cons_zero, List.set_cons_succ, i64_w, i32_w]
   rfl
  refine pure_ (i := 8) (N := some 18) (v := ?_) (a' := ?_) b4A8 rfl rfl (any_of HT_.out zG101) (fun _ _ _ h => h) (Or.inl ⟨by rfl, ?_⟩) ?_ ?_
  rotate_left
  ·intro w'
   go_simp
   with_reducible rfl
  rotate_left
  ·simp only [Act.put, List.setIfInBounds_toArray, List.set_cons_zero, List.set_cons_succ, i64_w, i32_w]
   rfl
  refine take_ (i := 3) (N := some 13) (v := ?_) (a' := ?_) b4A9 rfl rfl (take_ofW HT_.out HW_.out zG101) (fun _ _ _ h => h) (Or.inl ⟨by rfl, ?_⟩) hHeld ?_ ?_
  rotate_left
  ·rintro w' ⟨s0, s1, s2, s3, s4, s5, s6⟩
   go_simp
   with_reducible rfl
  rotate_left
  ·simp only [Act.put, List.setIfInBounds_toArray, List.set_cons_zero, List.set_cons_succ, i64_w, i32_w]
   rfl
  refine take_ (i := 7) (N := some 17) (v := ?_) (a' := ?_) b4A10 rfl rfl (take_ofW HT_.out HW_.out zG101) (fun _ _ _ h => h) (Or.inl ⟨by rfl, ?_⟩) hHeld ?_ ?_
  rotate_left
  ·rintro w' ⟨s0, s1, s2, s3, s4, s5, s6⟩
   go_simp
   with_reducible rfl
  rotate_left
  ·simp only [Act.put, List.setIfInBounds_toArray, List.set_cons_zero, List.set_cons_succ, i64_w, i32_w]
   rfl
  refine join_ (σ := Value × Value × Nat) 2 b4A0 (fun s_ => [(19, .tuple #[.agg #[s_.1, s_.2.1, .int .i64 t220, .int .i64 t221], .bool false]), (4, .pointer (some ⟨s_.2.2, 0, none⟩)), (9, .tuple #[.agg #[s_.1, s_.2.1, .int .i64 t220, .int .i64 t221], .bool false]), (20, .agg #[s_.1, s_.2.1, .int .i64 t220, .int .i64 t221]), (21, .bool false)]) (fun s_ w' => (w'.cell? ⟨gi0, 0, none⟩ = some (.slice A0_0 l0_0.length c0_0) ∧ w'.cell? ⟨gi0, 1, none⟩ = some (.int .i64 a0_1) ∧ w'.cell? ⟨gi0, 2, none⟩ = some (u9000_) ∧ w'.cell? ⟨gi0, 3, none⟩ = some (u9001_) ∧ w'.cell? ⟨gi0, 4, none⟩ = some (.int .i64 a0_4) ∧ w'.cell? ⟨gi0, 5, none⟩ = some (.int .i64 a0_5) ∧ w'.cell? ⟨gi0, 6, none⟩ = some (.bool a0_6)) ∧ (Kd.R (Kd.int .i64) 3 w' w0.heap.size (fun k_ => ((P0_2_ k_ ∨ P0_3_ k_) ∨ w.heap.size ≤ k_) ∧ some k_ ≠ (u9001_ : Value).ownBlock ∧ some k_ ≠ (s_.1 : Value).ownBlock ∧ some k_ ≠ (s_.2.1 : Value).ownBlock) u9000_ l0_2) ∧ (Kd.R (Kd.int .i64) 3 w' w0.heap.size (fun k_ => ((P0_2_ k_ ∨ P0_3_ k_) ∨ w.heap.size ≤ k_) ∧ some k_ ≠ (u9000_ : Value).ownBlock ∧ some k_ ≠ (s_.1 : Value).ownBlock ∧ some k_ ≠ (s_.2.1 : Value).ownBlock) u9001_ l0_3) ∧ (Kd.R (Kd.int .i64) 3 w' w0.heap.size (fun k_ => ((P0_2_ k_ ∨ P0_3_ k_) ∨ w.heap.size ≤ k_) ∧ some k_ ≠ (u9000_ : Value).ownBlock ∧ some k_ ≠ (u9001_ : Value).ownBlock ∧ some k_ ≠ (s_.2.1 : Value).ownBlock) s_.1 t214) ∧ (Kd.R (Kd.int .i64) 3 w' w0.heap.size (fun k_ => ((P0_2_ k_ ∨ P0_3_ k_) ∨ w.heap.size ≤ k_) ∧ some k_ ≠ (u9000_ : Value).ownBlock ∧ some k_ ≠ (u9001_ : Value).ownBlock ∧ some k_ ≠ (s_.1 : Value).ownBlock) s_.2.1 t217) ∧ (w'.heap[gi0]? = some (.cells #[.slice A0_0 l0_0.length c0_0, .int .i64 a0_1, u9000_, u9001_, .int .i64 a0_4, .int .i64 a0_5, .bool a0_6] 113 (0, 0))) ∧ (w'.heap[s_.2.2]? = some (.cells #[.slice none 0 0, .slice none 0 0, .int .i64 0, .int .i64 0] 28 (0, 0))) ∧ (w.heap.size ≤ s_.2.2) ∧ (w0.heap.size ≤ s_.2.2) ∧ (gi0 ≠ s_.2.2) ∧ (s_.2.2 ≠ gi0) ∧ (Kept w w' (fun k_ => (P0_2_ k_ ∨ P0_3_ k_) ∨ k_ = gi0)) ∧ (Below w0.heap.size w0 w')) ?_ ?_
  rotate_left
  ·intro hCont
   refine two_ (i := 9) (j := 13) (Ni := some 19) (Nj := some 4) b4A11 b4A12 rfl rfl rfl rfl (two_of HT_.out zG101) zG102 zG102 (fun K hK => ?_) (fun K hK => ?_)
   ·skip
    refine goes_ Try.func123 zG101 rfl #[.slice A0_0 l0_0.length c0_0, .int .i64 a0_1, .slice A1 l1.length c1] (by rfl) rfl rfl zG68 ?_
    with_reducible refine (spec_l20Route.calls k _ _ l0_0 a0_1 _ _ l1 t214 t217 t220 t221 false _ ?side1 ?side2 ?side3 ?side4 A3.out).mono ?_
    (case side1 => exact zah HR0_0.out zG65)
    (case side2 => exact HC0_0.out)
    (case side3 => exact zah HR1.out zG65)
    (case side4 => exact HC1.out)
    rintro e w87 ⟨v215, v218, rfl, ho0, ho1, hb⟩
    refine ⟨_, rfl, ?_⟩
    have n0_ := za (zp (zae (zae (zak zG98 hb) (zac ho0)) (zac ho1)) (fun _ h_ => h_.1))
    have n1_ := za (zp (zae (zae (zak zG99 hb) (zac ho0)) (zac ho1)) (fun _ h_ => h_.1))
    have n2_ := za (zag (zad (zad (zal (M := fun k_ => ((P0_2_ k_ ∨ P0_3_ k_) ∨ w.heap.size ≤ k_)) ho0 zG61 (fun k_ h_ => .inr h_)) (zaa zG98)) (zaa zG99)) (zq zG75))
    have n3_ := za (zag (zad (zad (zal (M := fun k_ => ((P0_2_ k_ ∨ P0_3_ k_) ∨ w.heap.size ≤ k_)) ho1 zG61 (fun k_ h_ => .inr h_)) (zaa zG98)) (zaa zG99)) (zq zG75))
    have n4_ := za (zr (g := gi0) (o := .cells #[.slice A0_0 l0_0.length c0_0, .int .i64 a0_1, u9000_, u9001_, .int .i64 a0_4, .int .i64 a0_5, .bool a0_6] 113 (0, 0)) zG91 hb)
    have n5_ := za (Kept.below (S := (fun k_ => (P0_2_ k_ ∨ P0_3_ k_) ∨ k_ = gi0)) zG65 hb)
    have n6_ := za (zu zG75 hb)
    clear HO0_2
    clear HO0_3
    clear BK0
    clear HK
    clear HB
    have HO0_2 := n0_
    have HO0_3 := n1_
    have HO216 := n2_
    have HO219 := n3_
    have BK0 := n4_
    have HK := n5_
    have HB := n6_
    clear n0_ n1_ n2_ n3_ n4_ n5_ n6_
    (try clear hb)
    (try clear hb2)
    (try clear hk)
    (try clear hi)
    (try clear ho0)
    (try clear ho1)
    refine hK.out _ _ ⟨(zg BK0.out 0).trans rfl, (zg BK0.out 1).trans rfl, (zg BK0.out 2).trans rfl, (zg BK0.out 3).trans rfl, (zg BK0.out 4).trans rfl, (zg BK0.out 5).trans rfl, (zg BK0.out 6).trans rfl⟩ (fun hHeld => ?_)
    clear hK K
    refine norm_ (a' := ?_) ?_ ?_
    rotate_left
    ·show Act.put _ (some 19) _ = _
     simp only [Act.put, List.setIfInBounds_toArray, List.set_cons_zero, List.set_cons_succ, i64_w, i32_w]
     rfl
    refine pure_ (i := 10) (N := some 9) (v := ?_) (a' := ?_) b4A13 rfl rfl (any_of HT_.out zG101) (fun _ _ _ h => h) (Or.inl ⟨by rfl, ?_⟩) ?_ ?_
    rotate_left
    ·intro w'
     go_simp
     with_reducible rfl
    rotate_left
    ·simp only [Act.put, List.setIfInBounds_toArray, List.set_cons_zero, List.set_cons_succ, i64_w, i32_w]
     rfl
    refine pure_ (i := 11) (N := some 20) (v := ?_) (a' := ?_) b4A14 rfl rfl (any_of HT_.out zG101) (fun _ _ _ h => h) (Or.inl ⟨by rfl, ?_⟩) ?_ ?_
    rotate_left
    ·intro w'
     go_simp
     with_reducible rfl
    rotate_left
    ·simp only [Act.put, List.setIfInBounds_toArray, List.set_cons_zero, List.set_cons_succ, i64_w, i32_w]
     rfl
    refine pure_ (i := 12) (N := some 21) (v := ?_) (a' := ?_) b4A15 rfl rfl (any_of HT_.out zG101) (fun _ _ _ h => h) (Or.inl ⟨by rfl, ?_⟩) ?_ ?_
    rotate_left
    ·intro w'
     go_simp
     with_reducible rfl
    rotate_left
    ·simp only [Act.put, List.setIfInBounds_toArray, List.set_cons_zero, List.set_cons_succ, i64_w, i32_w]
     rfl
    refine one_ (i := 13) (N := some 4) b4A0 rfl rfl (one_of HT_.out zG101) zG102 (fun K hK => ?_)
    refine box_step ?hg (N := 4) ?hd (cs := #[.slice none 0 0, .slice none 0 0, .int .i64 0, .int .i64 0]) (t := 28) ?hr ?_; (case hd => rfl); (case hg => rfl); (case hr => exact zH99)
    intro gb223 hg w88 hbox hb
    have n0_ := za (zt zG98 hb)
    have n1_ := za (zt zG99 hb)
    have n2_ := za (zt zK211 hb)
    have n3_ := za (zt zK212 hb)
    have n4_ := za (zr (g := gi0) (o := .cells #[.slice A0_0 l0_0.length c0_0, .int .i64 a0_1, u9000_, u9001_, .int .i64 a0_4, .int .i64 a0_5, .bool a0_6] 113 (0, 0)) zG91 hb)
    have n5_ := za (Kept.below (S := (fun k_ => (P0_2_ k_ ∨ P0_3_ k_) ∨ k_ = gi0)) zG65 hb)
    have n6_ := za (zu zG75 hb)
    have n7_ := za (hbox)
    have n8_ := za ((by rw [hg]; exact zG61 : w.heap.size ≤ gb223))
    have n9_ := za ((by rw [hg]; exact (zq zG75) : w0.heap.size ≤ gb223))
    have n10_ := za ((by rw [hg]; exact Nat.ne_of_lt (zx (g := gi0) (o := .cells #[.slice A0_0 l0_0.length c0_0, .int .i64 a0_1, u9000_, u9001_, .int .i64 a0_4, .int .i64 a0_5, .bool a0_6] 113 (0, 0)) zG91) : gi0 ≠ gb223))
    have n11_ := za ((by rw [hg]; exact Nat.ne_of_gt (zx (g := gi0) (o := .cells #[.slice A0_0 l0_0.length c0_0, .int .i64 a0_1, u9000_, u9001_, .int .i64 a0_4, .int .i64 a0_5, .bool a0_6] 113 (0, 0)) zG91) : gb223 ≠ gi0))
    clear HO0_2
    clear HO0_3
    clear HO216
    clear HO219
    clear BK0
    clear HK
    clear HB
    have HO0_2 := n0_
    have HO0_3 := n1_
    have HO216 := n2_
    have HO219 := n3_
    have BK0 := n4_
    have HK := n5_
    have HB := n6_
    have BK223 := n7_
    have GW223 := n8_
    have GE223 := n9_
    have NB0_223 := n10_
    have NB223_0 := n11_
    clear n0_ n1_ n2_ n3_ n4_ n5_ n6_ n7_ n8_ n9_ n10_ n11_
    clear hb hbox hg
    refine hK.out _ _ ⟨(zg BK0.out 0).trans rfl, (zg BK0.out 1).trans rfl, (zg BK0.out 2).trans rfl, (zg BK0.out 3).trans rfl, (zg BK0.out 4).trans rfl, (zg BK0.out 5).trans rfl, (zg BK0.out 6).trans rfl⟩ (fun hHeld => ?_)
    clear hK K
    refine norm_ (a' := ?_) ?_ ?_
    rotate_left
    ·show Act.put _ (some 4) _ = _
     simp only [Act.put, List.setIfInBounds_toArray, List.set_cons_zero, List.set_cons_succ, i64_w, i32_w]
     rfl
    exact norm_ zK191 (hCont (v215, v218, gb223) _ ⟨hHeld, zG69, zG70, zG71, zG72, zG91, zG86, GW223.out, GE223.out, NB0_223.out, NB223_0.out, zG63, zG67⟩)
   ·skip
    refine box_step ?hg (N := 4) ?hd (cs := #[.slice none 0 0, .slice none 0 0, .int .i64 0, .int .i64 0]) (t := 28) ?hr ?_; (case hd => rfl); (case hg => rfl); (case hr => exact zH99)
    intro gb223 hg w87 hbox hb
    have n0_ := za (zt zG98 hb)
    have n1_ := za (zt zG99 hb)
    have n2_ := za (zr (g := gi0) (o := .cells #[.slice A0_0 l0_0.length c0_0, .int .i64 a0_1, u9000_, u9001_, .int .i64 a0_4, .int .i64 a0_5, .bool a0_6] 113 (0, 0)) zG91 hb)
    have n3_ := za (Kept.below (S := (fun k_ => (P0_2_ k_ ∨ P0_3_ k_) ∨ k_ = gi0)) zG65 hb)
    have n4_ := za (zu zG75 hb)
    have n5_ := za (hbox)
    have n6_ := za ((by rw [hg]; exact zG61 : w.heap.size ≤ gb223))
    have n7_ := za ((by rw [hg]; exact (zq zG75) : w0.heap.size ≤ gb223))
    have n8_ := za ((by rw [hg]; exact Nat.ne_of_lt (zx (g := gi0) (o := .cells #[.slice A0_0 l0_0.length c0_0, .int .i64 a0_1, u9000_, u9001_, .int .i64 a0_4, .int .i64 a0_5, .bool a0_6] 113 (0, 0)) zG91) : gi0 ≠ gb223))
    have n9_ := za ((by rw [hg]; exact Nat.ne_of_gt (zx (g := gi0) (o := .cells #[.slice A0_0 l0_0.length c0_0, .int .i64 a0_1, u9000_, u9001_, .int .i64 a0_4, .int .i64 a0_5, .bool a0_6] 113 (0, 0)) zG91) : gb223 ≠ gi0))
    clear HO0_2
    clear HO0_3
    clear BK0
    clear HK
    clear HB
    have HO0_2 := n0_
    have HO0_3 := n1_
    have BK0 := n2_
    have HK := n3_
    have HB := n4_
    have BK223 := n5_
    have GW223 := n6_
    have GE223 := n7_
    have NB0_223 := n8_
    have NB223_0 := n9_
    clear n0_ n1_ n2_ n3_ n4_ n5_ n6_ n7_ n8_ n9_
    clear hb hbox hg
    refine hK.out _ _ ⟨(zg BK0.out 0).trans rfl, (zg BK0.out 1).trans rfl, (zg BK0.out 2).trans rfl, (zg BK0.out 3).trans rfl, (zg BK0.out 4).trans rfl, (zg BK0.out 5).trans rfl, (zg BK0.out 6).trans rfl⟩ (fun hHeld => ?_)
    clear hK K
    refine norm_ (a' := ?_) ?_ ?_
    rotate_left
    ·show Act.put _ (some 4) _ = _
     simp only [Act.put, List.setIfInBounds_toArray, List.set_cons_zero, List.set_cons_succ, i64_w, i32_w]
     rfl
    refine one_ (i := 9) (N := some 19) b4A16 rfl rfl (one_of HT_.out zG101) zG102 (fun K hK => ?_)
    refine goes_ Try.func123 zG101 rfl #[.slice A0_0 l0_0.length c0_0, .int .i64 a0_1, .slice A1 l1.length c1] (by rfl) rfl rfl zG68 ?_
    with_reducible refine (spec_l20Route.calls k _ _ l0_0 a0_1 _ _ l1 t214 t217 t220 t221 false _ ?side1 ?side2 ?side3 ?side4 A3.out).mono ?_
    (case side1 => exact zah HR0_0.out zG63)
    (case side2 => exact HC0_0.out)
    (case side3 => exact zah HR1.out zG63)
    (case side4 => exact HC1.out)
    rintro e w88 ⟨v215, v218, rfl, ho0, ho1, hb⟩
    refine ⟨_, rfl, ?_⟩
    have n0_ := za (zp (zae (zae (zak zG98 hb) (zac ho0)) (zac ho1)) (fun _ h_ => h_.1))
    have n1_ := za (zp (zae (zae (zak zG99 hb) (zac ho0)) (zac ho1)) (fun _ h_ => h_.1))
    have n2_ := za (zag (zad (zad (zal (M := fun k_ => ((P0_2_ k_ ∨ P0_3_ k_) ∨ w.heap.size ≤ k_)) ho0 zG60 (fun k_ h_ => .inr h_)) (zaa zG98)) (zaa zG99)) (zq zG67))
    have n3_ := za (zag (zad (zad (zal (M := fun k_ => ((P0_2_ k_ ∨ P0_3_ k_) ∨ w.heap.size ≤ k_)) ho1 zG60 (fun k_ h_ => .inr h_)) (zaa zG98)) (zaa zG99)) (zq zG67))
    have n4_ := za (zr (g := gi0) (o := .cells #[.slice A0_0 l0_0.length c0_0, .int .i64 a0_1, u9000_, u9001_, .int .i64 a0_4, .int .i64 a0_5, .bool a0_6] 113 (0, 0)) zG91 hb)
    have n5_ := za (zr (g := gb223) (o := .cells #[.slice none 0 0, .slice none 0 0, .int .i64 0, .int .i64 0] 28 (0, 0)) zG86 hb)
    have n6_ := za (Kept.below (S := (fun k_ => (P0_2_ k_ ∨ P0_3_ k_) ∨ k_ = gi0)) zG63 hb)
    have n7_ := za (zu zG67 hb)
    clear HO0_2
    clear HO0_3
    clear BK0
    clear BK223
    clear HK
    clear HB
    have HO0_2 := n0_
    have HO0_3 := n1_
    have HO216 := n2_
    have HO219 := n3_
    have BK0 := n4_
    have BK223 := n5_
    have HK := n6_
    have HB := n7_
    clear n0_ n1_ n2_ n3_ n4_ n5_ n6_ n7_
    (try clear hb)
    (try clear hb2)
    (try clear hk)
    (try clear hi)
    (try clear ho0)
    (try clear ho1)
    refine hK.out _ _ ⟨(zg BK0.out 0).trans rfl, (zg BK0.out 1).trans rfl, (zg BK0.out 2).trans rfl, (zg BK0.out 3).trans rfl, (zg BK0.out 4).trans rfl, (zg BK0.out 5).trans rfl, (zg BK0.out 6).trans rfl⟩ (fun hHeld => ?_)
    clear hK K
    refine norm_ (a' := ?_) ?_ ?_
    rotate_left
    ·show Act.put _ (some 19) _ = _
     simp only [Act.put, List.setIfInBounds_toArray, List.set_cons_zero, List.set_cons_succ, i64_w, i32_w]
     rfl
    refine pure_ (i := 10) (N := some 9) (v := ?_) (a' := ?_) b4A17 rfl rfl (any_of HT_.out zG101) (fun _ _ _ h => h) (Or.inl ⟨by rfl, ?_⟩) ?_ ?_
    rotate_left
    ·intro w'
     go_simp
     with_reducible rfl
    rotate_left
    ·simp only [Act.put, List.setIfInBounds_toArray, List.set_cons_zero, List.set_cons_succ, i64_w, i32_w]
     rfl
    refine pure_ (i := 11) (N := some 20) (v := ?_) (a' := ?_) b4A18 rfl rfl (any_of HT_.out zG101) (fun _ _ _ h => h) (Or.inl ⟨by rfl, ?_⟩) ?_ ?_
    rotate_left
    ·intro w'
     go_simp
     with_reducible rfl
    rotate_left
    ·simp only [Act.put, List.setIfInBounds_toArray, List.set_cons_zero, List.set_cons_succ, i64_w, i32_w]
     rfl
    refine pure_ (i := 12) (N := some 21) (v := ?_) (a' := ?_) b4A0 rfl rfl (any_of HT_.out zG101) (fun _ _ _ h => h) (Or.inl ⟨by rfl, ?_⟩) ?_ ?_
    rotate_left
    ·intro w'
     go_simp
     with_reducible rfl
    rotate_left
    ·simp only [Act.put, List.setIfInBounds_toArray, List.set_cons_zero, List.set_cons_succ, i64_w, i32_w]
     rfl
    exact norm_ zK191 (hCont (v215, v218, gb223) _ ⟨hHeld, zG69, zG70, zG71, zG72, zG91, zG86, GW223.out, GE223.out, NB0_223.out, NB223_0.out, zG63, zG67⟩)
  rintro ⟨v215, v218, gb223⟩ w89 ⟨hS_, h0_, h1_, h2_, h3_, h4_, h5_, h6_, h7_, h8_, h9_, h10_, h11_⟩
  have n0_ : Aside0 (Kd.R (Kd.int .i64) 3 w89 w0.heap.size (fun k_ => ((P0_2_ k_ ∨ P0_3_ k_) ∨ w.heap.size ≤ k_) ∧ some k_ ≠ (u9001_ : Value).ownBlock ∧ some k_ ≠ (v215 : Value).ownBlock ∧ some k_ ≠ (v218 : Value).ownBlock) u9000_ l0_2) := ⟨h0_⟩
  have n1_ : Aside0 (Kd.R (Kd.int .i64) 3 w89 w0.heap.size (fun k_ => ((P0_2_ k_ ∨ P0_3_ k_) ∨ w.heap.size ≤ k_) ∧ some k_ ≠ (u9000_ : Value).ownBlock ∧ some k_ ≠ (v215 : Value).ownBlock ∧ some k_ ≠ (v218 : Value).ownBlock) u9001_ l0_3) := ⟨h1_⟩
  have n2_ : Aside0 (Kd.R (Kd.int .i64) 3 w89 w0.heap.size (fun k_ => ((P0_2_ k_ ∨ P0_3_ k_) ∨ w.heap.size ≤ k_) ∧ some k_ ≠ (u9000_ : Value).ownBlock ∧ some k_ ≠ (u9001_ : Value).ownBlock ∧ some k_ ≠ (v218 : Value).ownBlock) v215 t214) := ⟨h2_⟩
  have n3_ : Aside0 (Kd.R (Kd.int .i64) 3 w89 w0.heap.size (fun k_ => ((P0_2_ k_ ∨ P0_3_ k_) ∨ w.heap.size ≤ k_) ∧ some k_ ≠ (u9000_ : Value).ownBlock ∧ some k_ ≠ (u9001_ : Value).ownBlock ∧ some k_ ≠ (v215 : Value).ownBlock) v218 t217) := ⟨h3_⟩
  have n4_ : Aside0 (w89.heap[gi0]? = some (.cells #[.slice A0_0 l0_0.length c0_0, .int .i64 a0_1, u9000_, u9001_, .int .i64 a0_4, .int .i64 a0_5, .bool a0_6] 113 (0, 0))) := ⟨h4_⟩
  have n5_ : Aside0 (w89.heap[gb223]? = some (.cells #[.slice none 0 0, .slice none 0 0, .int .i64 0, .int .i64 0] 28 (0, 0))) := ⟨h5_⟩
  have n6_ : Aside0 (w.heap.size ≤ gb223) := ⟨h6_⟩
  have n7_ : Aside0 (w0.heap.size ≤ gb223) := ⟨h7_⟩
  have n8_ : Aside0 (gi0 ≠ gb223) := ⟨h8_⟩
  have n9_ : Aside0 (gb223 ≠ gi0) := ⟨h9_⟩
  have n10_ : Aside0 (Kept w w89 (fun k_ => (P0_2_ k_ ∨ P0_3_ k_) ∨ k_ = gi0)) := ⟨h10_⟩
  have n11_ : Aside0 (Below w0.heap.size w0 w89) := ⟨h11_⟩
  clear HO0_2
  clear HO0_3
  clear BK0
  clear HK
  clear HB
  clear h0_ h1_ h2_ h3_ h4_ h5_ h6_ h7_ h8_ h9_ h10_ h11_
  have HO0_2 := n0_
  have HO0_3 := n1_
  have HO216 := n2_
  have HO219 := n3_
  have BK0 := n4_
  have BK223 := n5_
  have GW223 := n6_
  have GE223 := n7_
  have NB0_223 := n8_
  have NB223_0 := n9_
  have HK := n10_
  have HB := n11_
  clear n0_ n1_ n2_ n3_ n4_ n5_ n6_ n7_ n8_ n9_ n10_ n11_
  have hHeld : w89.cell? ⟨gi0, 0, none⟩ = some (.slice A0_0 l0_0.length c0_0) ∧ w89.cell? ⟨gi0, 1, none⟩ = some (.int .i64 a0_1) ∧ w89.cell? ⟨gi0, 2, none⟩ = some (u9000_) ∧ w89.cell? ⟨gi0, 3, none⟩ = some (u9001_) ∧ w89.cell? ⟨gi0, 4, none⟩ = some (.int .i64 a0_4) ∧ w89.cell? ⟨gi0, 5, none⟩ = some (.int .i64 a0_5) ∧ w89.cell? ⟨gi0, 6, none⟩ = some (.bool a0_6) := hS_
  obtain ⟨Ao90, co90, eo90⟩ := zaf HO216.out
  (first | subst eo90 | (injection eo90 with f1_ f2_ f3_; have f4_ := f1_.symm; have f5_ := f3_.symm; clear f1_ f2_ f3_; subst f4_; subst f5_))
  obtain ⟨Ao92, co92, eo92⟩ := zaf HO219.out
  (first | subst eo92 | (injection eo92 with f1_ f2_ f3_; have f4_ := f1_.symm; have f5_ := f3_.symm; clear f1_ f2_ f3_; subst f4_; subst f5_))
  refine norm_ (a' := ?_) ?_ ?_
  rotate_left
  ·simp only [putAll, Act.put, List.setIfInBounds_toArray, List.set_cons_zero, List.set_cons_succ]
   rfl
  refine one_ (i := 14) (N := none) b4A19 rfl rfl (one_of HT_.out zG101) zG102 (fun K hK => ?_)
  have hs91 : w89.cell? ⟨gb223, 0, none⟩ = some (.slice none 0 0) := (zg BK223.out 0).trans rfl
  have hfs91 := zh BK223.out 0
  have hns91_0 := NB0_223.out
  have hms91_0 := NB223_0.out
  have hs93 : w89.cell? ⟨gb223, 1, none⟩ = some (.slice none 0 0) := (zg BK223.out 1).trans rfl
  have hfs93 := zh BK223.out 1
  have hns93_0 := NB0_223.out
  have hms93_0 := NB223_0.out
  have hs94 : w89.cell? ⟨gb223, 2, none⟩ = some (.int .i64 0) := (zg BK223.out 2).trans rfl
  have hfs94 := zh BK223.out 2
  have hns94_0 := NB0_223.out
  have hms94_0 := NB223_0.out
  have hs95 : w89.cell? ⟨gb223, 3, none⟩ = some (.int .i64 0) := (zg BK223.out 3).trans rfl
  have hfs95 := zh BK223.out 3
  have hns95_0 := NB0_223.out
  have hms95_0 := NB223_0.out
  refine skip_ (w1 := ?_) (by rfl) rfl ?_ ?_
  rotate_left
  ·go_simp
   rfl
  refine hK.out _ _ ⟨((cell_far (p := ⟨gb223, _, none⟩) NB0_223.out _).trans (((cell_far (p := ⟨gb223, _, none⟩) NB0_223.out _).trans (((cell_far (p := ⟨gb223, _, none⟩) NB0_223.out _).trans (((cell_far (p := ⟨gb223, _, none⟩) NB0_223.out _).trans (hHeld.1)))))))), ((cell_far (p := ⟨gb223, _, none⟩) NB0_223.out _).trans (((cell_far (p := ⟨gb223, _, none⟩) NB0_223.out _).trans (((cell_far (p := ⟨gb223, _, none⟩) NB0_223.out _).trans (((cell_far (p := ⟨gb223, _, none⟩) NB0_223.out _).trans (hHeld.2.1)))))))), ((cell_far (p := ⟨gb223, _, none⟩) NB0_223.out _).trans (((cell_far (p := ⟨gb223, _, none⟩) NB0_223.out _).trans (((cell_far (p := ⟨gb223, _, none⟩) NB0_223.out _).trans (((cell_far (p := ⟨gb223, _, none⟩) NB0_223.out _).trans (hHeld.2.2.1)))))))), ((cell_far (p := ⟨gb223, _, none⟩) NB0_223.out _).trans (((cell_far (p := ⟨gb223, _, none⟩) NB0_223.out _).trans (((cell_far (p := ⟨gb223, _, none⟩) NB0_223.out _).trans (((cell_far (p := ⟨gb223, _, none⟩) NB0_223.out _).trans (hHeld.2.2.2.1)))))))), ((cell_far (p := ⟨gb223, _, none⟩) NB0_223.out _).trans (((cell_far (p := ⟨gb223, _, none⟩) NB0_223.out _).trans (((cell_far (p := ⟨gb223, _, none⟩) NB0_223.out _).trans (((cell_far (p := ⟨gb223, _, none⟩) NB0_223.out _).trans (hHeld.2.2.2.2.1)))))))), ((cell_far (p := ⟨gb223, _, none⟩) NB0_223.out _).trans (((cell_far (p := ⟨gb223, _, none⟩) NB0_223.out _).trans (((cell_far (p := ⟨gb223, _, none⟩) NB0_223.out _).trans (((cell_far (p := ⟨gb223, _, none⟩) NB0_223.out _).trans (hHeld.2.2.2.2.2.1)))))))), ((cell_far (p := ⟨gb223, _, none⟩) NB0_223.out _).trans (((cell_far (p := ⟨gb223, _, none⟩) NB0_223.out _).trans (((cell_far (p := ⟨gb223, _, none⟩) NB0_223.out _).trans (((cell_far (p := ⟨gb223, _, none⟩) NB0_223.out _).trans (hHeld.2.2.2.2.2.2))))))))⟩ (fun hHeld => ?_)
  clear hK K
  refine pure_ (i := 15) (N := some 5) (v := ?_) (a' := ?_) b4A20 rfl rfl (any_of HT_.out zG101) (fun _ _ _ h => h) (Or.inl ⟨by rfl, ?_⟩) ?_ ?_
  rotate_left
  ·intro w'
   go_simp
   with_reducible rfl
  rotate_left
  ·simp only [Act.put, List.setIfInBounds_toArray, List.set_cons_zero, List.set_cons_succ, i64_w, i32_w]
   rfl
  refine done_ (done_of HT_.out zG101) ?_
  try go_wp2
  first | go_end0 | ((try simp only [Exit.inBlock, Exit.then]); refine bodyPost_ret (results_none rfl _ _ _) rfl ?_)
  exact ⟨_, _, zH86, by (with_reducible repeat (first | apply zk | apply zl | apply zm)); exact zp (zn (p := ⟨gb223, 3, none⟩) (zn (p := ⟨gb223, 2, none⟩) (zn (p := ⟨gb223, 1, none⟩) (zn (p := ⟨gb223, 0, none⟩) (zv HO0_2.out BK223.out zG102) (fun _ hk => hk.2) (.slice Ao90 t214.length co90)) (fun _ hk => hk.2) (.slice Ao92 t217.length co92)) (fun _ hk => hk.2) (.int .i64 t220)) (fun _ hk => hk.2) (.int .i64 t221)) (fun _ hk => ⟨hk.1.1, hk.1.2.1⟩), by (with_reducible repeat (first | apply zk | apply zl | apply zm)); exact zp (zn (p := ⟨gb223, 3, none⟩) (zn (p := ⟨gb223, 2, none⟩) (zn (p := ⟨gb223, 1, none⟩) (zn (p := ⟨gb223, 0, none⟩) (zv HO0_3.out BK223.out zG102) (fun _ hk => hk.2) (.slice Ao90 t214.length co90)) (fun _ hk => hk.2) (.slice Ao92 t217.length co92)) (fun _ hk => hk.2) (.int .i64 t220)) (fun _ hk => hk.2) (.int .i64 t221)) (fun _ hk => ⟨hk.1.1, hk.1.2.1⟩), (by (with_reducible repeat (first | refine zc ?_ _ | refine zd ?_ | refine zb ?_ _)); refine zs ?_ NB0_223.out _; (with_reducible repeat (first | refine zc ?_ _ | refine zd ?_ | refine zb ?_ _)); refine zs ?_ NB0_223.out _; (with_reducible repeat (first | refine zc ?_ _ | refine zd ?_ | refine zb ?_ _)); refine zs ?_ NB0_223.out _; (with_reducible repeat (first | refine zc ?_ _ | refine zd ?_ | refine zb ?_ _)); refine zs ?_ NB0_223.out _; (with_reducible repeat (first | refine zc ?_ _ | refine zd ?_ | refine zb ?_ _)); exact BK0.out), zH52, zH29⟩

 subst c4
 have H1 : (if (l1.length : Int) = (l0_0.length : Int) then (if a0_6 = true then (if t221 < a0_5 then (some (t214, t217, t220, t221, true)) else (some (l0_2, l0_3, a0_4, a0_5, a0_6))) else (some (t214, t217, t220, t221, true))) else (spec_l20Search_try.l0 k l1 0 l0_0 a0_1 l0_2 l0_3 a0_4 a0_5 a0_6)) = some (r1, r2, r3, r4, r5) := by rw [if_pos rfl] at H; exact H
 clear H
 have H := H1
 clear H1
 by_cases c5 : (l1.length : Int) = (l0_0.length : Int)
 rotate_left
 ·rw [if_neg c5] at H
  have c5b0 : ((l1.length : Int) == (l0_0.length : Int)) = false := beq_eq_false_iff_ne.mpr c5
  have c5b1 : ((l1.length : Int) != (l0_0.length : Int)) = true := bne_iff_ne.mpr c5
  have c5b2 : (l1.length == l0_0.length) = false := by first | simpa using c5 | (simp at c5 ⊢; omega)
  have H' := za H
  clear H
  go_enter Try.func69, Try.ntmps69
  try go_wp2
  have n0_ := za (zm HO0_2.out)
  have n1_ := za (zm HO0_3.out)
  have n2_ := za (zd BK0.out)
  have n3_ := za (Kept.drew HK.out)
  have n4_ := za (zi HB.out)
  clear HO0_2
  clear HO0_3
  clear BK0
  clear HK
  clear HB
  have HO0_2 := n0_
  have HO0_3 := n1_
  have BK0 := n2_
  have HK := n3_
  have HB := n4_
  clear n0_ n1_ n2_ n3_ n4_
  refine start_ (n := 16) (S := fun w' => w'.cell? ⟨gi0, 0, none⟩ = some (.slice A0_0 l0_0.length c0_0) ∧ w'.cell? ⟨gi0, 1, none⟩ = some (.int .i64 a0_1) ∧ w'.cell? ⟨gi0, 2, none⟩ = some (u9000_) ∧ w'.cell? ⟨gi0, 3, none⟩ = some (u9001_) ∧ w'.cell? ⟨gi0, 4, none⟩ = some (.int .i64 a0_4) ∧ w'.cell? ⟨gi0, 5, none⟩ = some (.int .i64 a0_5) ∧ w'.cell? ⟨gi0, 6, none⟩ = some (.bool a0_6)) (ds := []) b4A1 zG101 rfl rfl ⟨(zg BK0.out 0).trans rfl, (zg BK0.out 1).trans rfl, (zg BK0.out 2).trans rfl, (zg BK0.out 3).trans rfl, (zg BK0.out 4).trans rfl, (zg BK0.out 5).trans rfl, (zg BK0.out 6).trans rfl⟩ (fun hHeld => ?_); refine with_tabW spec_l20Search_try.tab0 spec_l20Search_try.bits0 (fun HT_ HW_ => ?_)
  generalize w.drew = w54 at HO0_2 HO0_3 BK0 HK HB hHeld ⊢
  refine pure_ (i := 0) (N := some 10) (v := ?_) (a' := ?_) b4A2 rfl rfl (any_of HT_.out zG101) (fun _ _ _ h => h) (Or.inl ⟨by rfl, ?_⟩) ?_ ?_
  rotate_left
  ·intro w'
   go_simp
   with_reducible rfl
  rotate_left
  ·simp only [Act.put, List.setIfInBounds_toArray, List.set_cons_zero, List.set_cons_succ, i64_w, i32_w]
   rfl
  refine pure_ (i := 1) (N := some 11) (v := ?_) (a' := ?_) b4A3 rfl rfl (any_of HT_.out zG101) (fun _ _ _ h => h) (Or.inl ⟨by rfl, ?_⟩) ?_ ?_
  rotate_left
  ·intro w'
   go_simp
   with_reducible rfl
  rotate_left
  ·simp only [Act.put, List.setIfInBounds_toArray, List.set_cons_zero, List.set_cons_succ, i64_w, i32_w]
   rfl
  refine pure_ (i := 2) (N := some 12) (v := ?_) (a' := ?_) b4A4 rfl rfl (any_of HT_.out zG101) (fun _ _ _ h => h) (Or.inl ⟨by rfl, ?_⟩) ?_ ?_
  rotate_left
  ·intro w'
   go_simp
   with_reducible rfl
  rotate_left
  ·simp only [Act.put, List.setIfInBounds_toArray, List.set_cons_zero, List.set_cons_succ, i64_w, i32_w]
   rfl
  refine pure_ (i := 4) (N := some 14) (v := ?_) (a' := ?_) b4A5 rfl rfl (any_of HT_.out zG101) (fun _ _ _ h => h) (Or.inl ⟨by rfl, ?_⟩) ?_ ?_
  rotate_left
  ·intro w'
   go_simp
   with_reducible rfl
  rotate_left
  ·simp only [Act.put, List.setIfInBounds_toArray, List.set_cons_zero, List.set_cons_succ, i64_w, i32_w]
   rfl
  refine pure_ (i := 5) (N := some 15) (v := ?_) (a' := ?_) b4A6 rfl rfl (any_of HT_.out zG101) (fun _ _ _ h => h) (Or.inl ⟨by rfl, ?_⟩) ?_ ?_
  rotate_left
  ·intro w'
   go_simp
   with_reducible rfl
  rotate_left
  ·simp only [Act.put, List.setIfInBounds_toArray, List.set_cons_zero, List.set_cons_succ, i64_w, i32_w]
   rfl
  refine pure_ (i := 6) (N := some 16) (v := ?_) (a' := ?_) b4A7 rfl rfl (any_of HT_.out zG101) (fun _ _ _ h => h) (Or.inl ⟨by rfl, ?_⟩) ?_ ?_
  rotate_left
  ·intro w'
   go_simp
   with_reducible rfl
  rotate_left
  ·simp only [Act.put, List.setIfInBounds_toArray, List.set_cons_zero, List.set_cons_succ, i64_w, i32_w]
   rfl
  refine pure_ (i := 8) (N := some 18) (v := ?_) (a' := ?_) b4A8 rfl rfl (any_of HT_.out zG101) (fun _ _ _ h => h) (Or.inl ⟨by rfl, ?_⟩) ?_ ?_
  rotate_left
  ·intro w'
   go_simp
   with_reducible rfl
  rotate_left
  ·simp only [Act.put, List.setIfInBounds_toArray, List.set_cons_zero, List.set_cons_succ, i64_w, i32_w]
   rfl
  refine take_ (i := 3) (N := some 13) (v := ?_) (a' := ?_) b4A9 rfl rfl (take_ofW HT_.out HW_.out zG101) (fun _ _ _ h => h) (Or.inl ⟨by rfl, ?_⟩) hHeld ?_ ?_
  rotate_left
  ·rintro w' ⟨s0, s1, s2, s3, s4, s5, s6⟩
   go_simp
   with_reducible rfl
  rotate_left
  ·simp only [Act.put, List.setIfInBounds_toArray, List.set_cons_zero, List.set_cons_succ, i64_w, i32_w]
   rfl
  refine take_ (i := 7) (N := some 17) (v := ?_) (a' := ?_) b4A10 rfl rfl (take_ofW HT_.out HW_.out zG101) (fun _ _ _ h => h) (Or.inl ⟨by rfl, ?_⟩) hHeld ?_ ?_
  rotate_left
  ·rintro w' ⟨s0, s1, s2, s3, s4, s5, s6⟩
   go_simp
   with_reducible rfl
  rotate_left
  ·simp only [Act.put, List.setIfInBounds_toArray, List.set_cons_zero, List.set_cons_succ, i64_w, i32_w]
   rfl
  refine join_ (σ := Value × Value × Nat) 2 b4A0 (fun s_ => [(19, .tuple #[.agg #[s_.1, s_.2.1, .int .i64 t220, .int .i64 t221], .bool true]), (4, .pointer (some ⟨s_.2.2, 0, none⟩)), (9, .tuple #[.agg #[s_.1, s_.2.1, .int .i64 t220, .int .i64 t221], .bool true]), (20, .agg #[s_.1, s_.2.1, .int .i64 t220, .int .i64 t221]), (21, .bool true)]) (fun s_ w' => (w'.cell? ⟨gi0, 0, none⟩ = some (.slice A0_0 l0_0.length c0_0) ∧ w'.cell? ⟨gi0, 1, none⟩ = some (.int .i64 a0_1) ∧ w'.cell? ⟨gi0, 2, none⟩ = some (u9000_) ∧ w'.cell? ⟨gi0, 3, none⟩ = some (u9001_) ∧ w'.cell? ⟨gi0, 4, none⟩ = some (.int .i64 a0_4) ∧ w'.cell? ⟨gi0, 5, none⟩ = some (.int .i64 a0_5) ∧ w'.cell? ⟨gi0, 6, none⟩ = some (.bool a0_6)) ∧ (Kd.R (Kd.int .i64) 3 w' w0.heap.size (fun k_ => ((P0_2_ k_ ∨ P0_3_ k_) ∨ w.heap.size ≤ k_) ∧ some k_ ≠ (u9001_ : Value).ownBlock ∧ some k_ ≠ (s_.1 : Value).ownBlock ∧ some k_ ≠ (s_.2.1 : Value).ownBlock) u9000_ l0_2) ∧ (Kd.R (Kd.int .i64) 3 w' w0.heap.size (fun k_ => ((P0_2_ k_ ∨ P0_3_ k_) ∨ w.heap.size ≤ k_) ∧ some k_ ≠ (u9000_ : Value).ownBlock ∧ some k_ ≠ (s_.1 : Value).ownBlock ∧ some k_ ≠ (s_.2.1 : Value).ownBlock) u9001_ l0_3) ∧ (Kd.R (Kd.int .i64) 3 w' w0.heap.size (fun k_ => ((P0_2_ k_ ∨ P0_3_ k_) ∨ w.heap.size ≤ k_) ∧ some k_ ≠ (u9000_ : Value).ownBlock ∧ some k_ ≠ (u9001_ : Value).ownBlock ∧ some k_ ≠ (s_.2.1 : Value).ownBlock) s_.1 t214) ∧ (Kd.R (Kd.int .i64) 3 w' w0.heap.size (fun k_ => ((P0_2_ k_ ∨ P0_3_ k_) ∨ w.heap.size ≤ k_) ∧ some k_ ≠ (u9000_ : Value).ownBlock ∧ some k_ ≠ (u9001_ : Value).ownBlock ∧ some k_ ≠ (s_.1 : Value).ownBlock) s_.2.1 t217) ∧ (w'.heap[gi0]? = some (.cells #[.slice A0_0 l0_0.length c0_0, .int .i64 a0_1, u9000_, u9001_, .int .i64 a0_4, .int .i64 a0_5, .bool a0_6] 113 (0, 0))) ∧ (w'.heap[s_.2.2]? = some (.cells #[.slice none 0 0, .slice none 0 0, .int .i64 0, .int .i64 0] 28 (0, 0))) ∧ (w.heap.size ≤ s_.2.2) ∧ (w0.heap.size ≤ s_.2.2) ∧ (gi0 ≠ s_.2.2) ∧ (s_.2.2 ≠ gi0) ∧ (Kept w w' (fun k_ => (P0_2_ k_ ∨ P0_3_ k_) ∨ k_ = gi0)) ∧ (Below w0.heap.size w0 w')) ?_ ?_
  rotate_left
  ·intro hCont
   refine two_ (i := 9) (j := 13) (Ni := some 19) (Nj := some 4) b4A11 b4A12 rfl rfl rfl rfl (two_of HT_.out zG101) zG102 zG102 (fun K hK => ?_) (fun K hK => ?_)
   ·skip
    refine goes_ Try.func123 zG101 rfl #[.slice A0_0 l0_0.length c0_0, .int .i64 a0_1, .slice A1 l1.length c1] (by rfl) rfl rfl zG68 ?_
    with_reducible refine (spec_l20Route.calls k _ _ l0_0 a0_1 _ _ l1 t214 t217 t220 t221 true _ ?side1 ?side2 ?side3 ?side4 A3.out).mono ?_
    (case side1 => exact zah HR0_0.out zG65)
    (case side2 => exact HC0_0.out)
    (case side3 => exact zah HR1.out zG65)
    (case side4 => exact HC1.out)
    rintro e w55 ⟨v215, v218, rfl, ho0, ho1, hb⟩
    refine ⟨_, rfl, ?_⟩
    have n0_ := za (zp (zae (zae (zak zG98 hb) (zac ho0)) (zac ho1)) (fun _ h_ => h_.1))
    have n1_ := za (zp (zae (zae (zak zG99 hb) (zac ho0)) (zac ho1)) (fun _ h_ => h_.1))
    have n2_ := za (zag (zad (zad (zal (M := fun k_ => ((P0_2_ k_ ∨ P0_3_ k_) ∨ w.heap.size ≤ k_)) ho0 zG61 (fun k_ h_ => .inr h_)) (zaa zG98)) (zaa zG99)) (zq zG75))
    have n3_ := za (zag (zad (zad (zal (M := fun k_ => ((P0_2_ k_ ∨ P0_3_ k_) ∨ w.heap.size ≤ k_)) ho1 zG61 (fun k_ h_ => .inr h_)) (zaa zG98)) (zaa zG99)) (zq zG75))
    have n4_ := za (zr (g := gi0) (o := .cells #[.slice A0_0 l0_0.length c0_0, .int .i64 a0_1, u9000_, u9001_, .int .i64 a0_4, .int .i64 a0_5, .bool a0_6] 113 (0, 0)) zG91 hb)
    have n5_ := za (Kept.below (S := (fun k_ => (P0_2_ k_ ∨ P0_3_ k_) ∨ k_ = gi0)) zG65 hb)
    have n6_ := za (zu zG75 hb)
    clear HO0_2
    clear HO0_3
    clear BK0
    clear HK
    clear HB
    have HO0_2 := n0_
    have HO0_3 := n1_
    have HO216 := n2_
    have HO219 := n3_
    have BK0 := n4_
    have HK := n5_
    have HB := n6_
    clear n0_ n1_ n2_ n3_ n4_ n5_ n6_
    (try clear hb)
    (try clear hb2)
    (try clear hk)
    (try clear hi)
    (try clear ho0)
    (try clear ho1)
    refine hK.out _ _ ⟨(zg BK0.out 0).trans rfl, (zg BK0.out 1).trans rfl, (zg BK0.out 2).trans rfl, (zg BK0.out 3).trans rfl, (zg BK0.out 4).trans rfl, (zg BK0.out 5).trans rfl, (zg BK0.out 6).trans rfl⟩ (fun hHeld => ?_)
    clear hK K
    refine norm_ (a' := ?_) ?_ ?_
    rotate_left
    ·show Act.put _ (some 19) _ = _
     simp only [Act.put, List.setIfInBounds_toArray, List.set_cons_zero, List.set_cons_succ, i64_w, i32_w]
     rfl
    refine pure_ (i := 10) (N := some 9) (v := ?_) (a' := ?_) b4A13 rfl rfl (any_of HT_.out zG101) (fun _ _ _ h => h) (Or.inl ⟨by rfl, ?_⟩) ?_ ?_
    rotate_left
    ·intro w'
     go_simp
     with_reducible rfl
    rotate_left
    ·simp only [Act.put, List.setIfInBounds_toArray, List.set_cons_zero, List.set_cons_succ, i64_w, i32_w]
     rfl
    refine pure_ (i := 11) (N := some 20) (v := ?_) (a' := ?_) b4A14 rfl rfl (any_of HT_.out zG101) (fun _ _ _ h => h) (Or.inl ⟨by rfl, ?_⟩) ?_ ?_
    rotate_left
    ·intro w'
     go_simp
     with_reducible rfl
    rotate_left
    ·simp only [Act.put, List.setIfInBounds_toArray, List.set_cons_zero, List.set_cons_succ, i64_w, i32_w]
     rfl
    refine pure_ (i := 12) (N := some 21) (v := ?_) (a' := ?_) b4A15 rfl rfl (any_of HT_.out zG101) (fun _ _ _ h => h) (Or.inl ⟨by rfl, ?_⟩) ?_ ?_
    rotate_left
    ·intro w'
     go_simp
     with_reducible rfl
    rotate_left
    ·simp only [Act.put, List.setIfInBounds_toArray, List.set_cons_zero, List.set_cons_succ, i64_w, i32_w]
     rfl
    refine one_ (i := 13) (N := some 4) b4A0 rfl rfl (one_of HT_.out zG101) zG102 (fun K hK => ?_)
    refine box_step ?hg (N := 4) ?hd (cs := #[.slice none 0 0, .slice none 0 0, .int .i64 0, .int .i64 0]) (t := 28) ?hr ?_; (case hd => rfl); (case hg => rfl); (case hr => exact zH99)
    intro gb223 hg w56 hbox hb
    have n0_ := za (zt zG98 hb)
    have n1_ := za (zt zG99 hb)
    have n2_ := za (zt zK211 hb)
    have n3_ := za (zt zK212 hb)
    have n4_ := za (zr (g := gi0) (o := .cells #[.slice A0_0 l0_0.length c0_0, .int .i64 a0_1, u9000_, u9001_, .int .i64 a0_4, .int .i64 a0_5, .bool a0_6] 113 (0, 0)) zG91 hb)
    have n5_ := za (Kept.below (S := (fun k_ => (P0_2_ k_ ∨ P0_3_ k_) ∨ k_ = gi0)) zG65 hb)
    have n6_ := za (zu zG75 hb)
    have n7_ := za (hbox)
    have n8_ := za ((by rw [hg]; exact zG61 : w.heap.size ≤ gb223))
    have n9_ := za ((by rw [hg]; exact (zq zG75) : w0.heap.size ≤ gb223))
    have n10_ := za ((by rw [hg]; exact Nat.ne_of_lt (zx (g := gi0) (o := .cells #[.slice A0_0 l0_0.length c0_0, .int .i64 a0_1, u9000_, u9001_, .int .i64 a0_4, .int .i64 a0_5, .bool a0_6] 113 (0, 0)) zG91) : gi0 ≠ gb223))
    have n11_ := za ((by rw [hg]; exact Nat.ne_of_gt (zx (g := gi0) (o := .cells #[.slice A0_0 l0_0.length c0_0, .int .i64 a0_1, u9000_, u9001_, .int .i64 a0_4, .int .i64 a0_5, .bool a0_6] 113 (0, 0)) zG91) : gb223 ≠ gi0))
    clear HO0_2
    clear HO0_3
    clear HO216
    clear HO219
    clear BK0
    clear HK
    clear HB
    have HO0_2 := n0_
    have HO0_3 := n1_
    have HO216 := n2_
    have HO219 := n3_
    have BK0 := n4_
    have HK := n5_
    have HB := n6_
    have BK223 := n7_
    have GW223 := n8_
    have GE223 := n9_
    have NB0_223 := n10_
    have NB223_0 := n11_
    clear n0_ n1_ n2_ n3_ n4_ n5_ n6_ n7_ n8_ n9_ n10_ n11_
    clear hb hbox hg
    refine hK.out _ _ ⟨(zg BK0.out 0).trans rfl, (zg BK0.out 1).trans rfl, (zg BK0.out 2).trans rfl, (zg BK0.out 3).trans rfl, (zg BK0.out 4).trans rfl, (zg BK0.out 5).trans rfl, (zg BK0.out 6).trans rfl⟩ (fun hHeld => ?_)
    clear hK K
    refine norm_ (a' := ?_) ?_ ?_
    rotate_left
    ·show Act.put _ (some 4) _ = _
     simp only [Act.put, List.setIfInBounds_toArray, List.set_cons_zero, List.set_cons_succ, i64_w, i32_w]
     rfl
    exact norm_ zK191 (hCont (v215, v218, gb223) _ ⟨hHeld, zG69, zG70, zG71, zG72, zG91, zG86, GW223.out, GE223.out, NB0_223.out, NB223_0.out, zG63, zG67⟩)
   ·skip
    refine box_step ?hg (N := 4) ?hd (cs := #[.slice none 0 0, .slice none 0 0, .int .i64 0, .int .i64 0]) (t := 28) ?hr ?_; (case hd => rfl); (case hg => rfl); (case hr => exact zH99)
    intro gb223 hg w55 hbox hb
    have n0_ := za (zt zG98 hb)
    have n1_ := za (zt zG99 hb)
    have n2_ := za (zr (g := gi0) (o := .cells #[.slice A0_0 l0_0.length c0_0, .int .i64 a0_1, u9000_, u9001_, .int .i64 a0_4, .int .i64 a0_5, .bool a0_6] 113 (0, 0)) zG91 hb)
    have n3_ := za (Kept.below (S := (fun k_ => (P0_2_ k_ ∨ P0_3_ k_) ∨ k_ = gi0)) zG65 hb)
    have n4_ := za (zu zG75 hb)
    have n5_ := za (hbox)
    have n6_ := za ((by rw [hg]; exact zG61 : w.heap.size ≤ gb223))
    have n7_ := za ((by rw [hg]; exact (zq zG75) : w0.heap.size ≤ gb223))
    have n8_ := za ((by rw [hg]; exact Nat.ne_of_lt (zx (g := gi0) (o := .cells #[.slice A0_0 l0_0.length c0_0, .int .i64 a0_1, u9000_, u9001_, .int .i64 a0_4, .int .i64 a0_5, .bool a0_6] 113 (0, 0)) zG91) : gi0 ≠ gb223))
    have n9_ := za ((by rw [hg]; exact Nat.ne_of_gt (zx (g := gi0) (o := .cells #[.slice A0_0 l0_0.length c0_0, .int .i64 a0_1, u9000_, u9001_, .int .i64 a0_4, .int .i64 a0_5, .bool a0_6] 113 (0, 0)) zG91) : gb223 ≠ gi0))
    clear HO0_2
    clear HO0_3
    clear BK0
    clear HK
    clear HB
    have HO0_2 := n0_
    have HO0_3 := n1_
    have BK0 := n2_
    have HK := n3_
    have HB := n4_
    have BK223 := n5_
    have GW223 := n6_
    have GE223 := n7_
    have NB0_223 := n8_
    have NB223_0 := n9_
    clear n0_ n1_ n2_ n3_ n4_ n5_ n6_ n7_ n8_ n9_
    clear hb hbox hg
    refine hK.out _ _ ⟨(zg BK0.out 0).trans rfl, (zg BK0.out 1).trans rfl, (zg BK0.out 2).trans rfl, (zg BK0.out 3).trans rfl, (zg BK0.out 4).trans rfl, (zg BK0.out 5).trans rfl, (zg BK0.out 6).trans rfl⟩ (fun hHeld => ?_)
    clear hK K
    refine norm_ (a' := ?_) ?_ ?_
    rotate_left
    ·show Act.put _ (some 4) _ = _
     simp only [Act.put, List.setIfInBounds_toArray, List.set_cons_zero, List.set_cons_succ, i64_w, i32_w]
     rfl
    refine one_ (i := 9) (N := some 19) b4A16 rfl rfl (one_of HT_.out zG101) zG102 (fun K hK => ?_)
    refine goes_ Try.func123 zG101 rfl #[.slice A0_0 l0_0.length c0_0, .int .i64 a0_1, .slice A1 l1.length c1] (by rfl) rfl rfl zG68 ?_
    with_reducible refine (spec_l20Route.calls k _ _ l0_0 a0_1 _ _ l1 t214 t217 t220 t221 true _ ?side1 ?side2 ?side3 ?side4 A3.out).mono ?_
    (case side1 => exact zah HR0_0.out zG63)
    (case side2 => exact HC0_0.out)
    (case side3 => exact zah HR1.out zG63)
    (case side4 => exact HC1.out)
    rintro e w56 ⟨v215, v218, rfl, ho0, ho1, hb⟩
    refine ⟨_, rfl, ?_⟩
    have n0_ := za (zp (zae (zae (zak zG98 hb) (zac ho0)) (zac ho1)) (fun _ h_ => h_.1))
    have n1_ := za (zp (zae (zae (zak zG99 hb) (zac ho0)) (zac ho1)) (fun _ h_ => h_.1))
    have n2_ := za (zag (zad (zad (zal (M := fun k_ => ((P0_2_ k_ ∨ P0_3_ k_) ∨ w.heap.size ≤ k_)) ho0 zG60 (fun k_ h_ => .inr h_)) (zaa zG98)) (zaa zG99)) (zq zG67))
    have n3_ := za (zag (zad (zad (zal (M := fun k_ => ((P0_2_ k_ ∨ P0_3_ k_) ∨ w.heap.size ≤ k_)) ho1 zG60 (fun k_ h_ => .inr h_)) (zaa zG98)) (zaa zG99)) (zq zG67))
    have n4_ := za (zr (g := gi0) (o := .cells #[.slice A0_0 l0_0.length c0_0, .int .i64 a0_1, u9000_, u9001_, .int .i64 a0_4, .int .i64 a0_5, .bool a0_6] 113 (0, 0)) zG91 hb)
    have n5_ := za (zr (g := gb223) (o := .cells #[.slice none 0 0, .slice none 0 0, .int .i64 0, .int .i64 0] 28 (0, 0)) zG86 hb)
    have n6_ := za (Kept.below (S := (fun k_ => (P0_2_ k_ ∨ P0_3_ k_) ∨ k_ = gi0)) zG63 hb)
    have n7_ := za (zu zG67 hb)
    clear HO0_2
    clear HO0_3
    clear BK0
    clear BK223
    clear HK
    clear HB
    have HO0_2 := n0_
    have HO0_3 := n1_
    have HO216 := n2_
    have HO219 := n3_
    have BK0 := n4_
    have BK223 := n5_
    have HK := n6_
    have HB := n7_
    clear n0_ n1_ n2_ n3_ n4_ n5_ n6_ n7_
    (try clear hb)
    (try clear hb2)
    (try clear hk)
    (try clear hi)
    (try clear ho0)
    (try clear ho1)
    refine hK.out _ _ ⟨(zg BK0.out 0).trans rfl, (zg BK0.out 1).trans rfl, (zg BK0.out 2).trans rfl, (zg BK0.out 3).trans rfl, (zg BK0.out 4).trans rfl, (zg BK0.out 5).trans rfl, (zg BK0.out 6).trans rfl⟩ (fun hHeld => ?_)
    clear hK K
    refine norm_ (a' := ?_) ?_ ?_
    rotate_left
    ·show Act.put _ (some 19) _ = _
     simp only [Act.put, List.setIfInBounds_toArray, List.set_cons_zero, List.set_cons_succ, i64_w, i32_w]
     rfl
    refine pure_ (i := 10) (N := some 9) (v := ?_) (a' := ?_) b4A17 rfl rfl (any_of HT_.out zG101) (fun _ _ _ h => h) (Or.inl ⟨by rfl, ?_⟩) ?_ ?_
    rotate_left
    ·intro w'
     go_simp
     with_reducible rfl
    rotate_left
    ·simp only [Act.put, List.setIfInBounds_toArray, List.set_cons_zero, List.set_cons_succ, i64_w, i32_w]
     rfl
    refine pure_ (i := 11) (N := some 20) (v := ?_) (a' := ?_) b4A18 rfl rfl (any_of HT_.out zG101) (fun _ _ _ h => h) (Or.inl ⟨by rfl, ?_⟩) ?_ ?_
    rotate_left
    ·intro w'
     go_simp
     with_reducible rfl
    rotate_left
    ·simp only [Act.put, List.setIfInBounds_toArray, List.set_cons_zero, List.set_cons_succ, i64_w, i32_w]
     rfl
    refine pure_ (i := 12) (N := some 21) (v := ?_) (a' := ?_) b4A0 rfl rfl (any_of HT_.out zG101) (fun _ _ _ h => h) (Or.inl ⟨by rfl, ?_⟩) ?_ ?_
    rotate_left
    ·intro w'
     go_simp
     with_reducible rfl
    rotate_left
    ·simp only [Act.put, List.setIfInBounds_toArray, List.set_cons_zero, List.set_cons_succ, i64_w, i32_w]
     rfl
    exact norm_ zK191 (hCont (v215, v218, gb223) _ ⟨hHeld, zG69, zG70, zG71, zG72, zG91, zG86, GW223.out, GE223.out, NB0_223.out, NB223_0.out, zG63, zG67⟩)
  rintro ⟨v215, v218, gb223⟩ w57 ⟨hS_, h0_, h1_, h2_, h3_, h4_, h5_, h6_, h7_, h8_, h9_, h10_, h11_⟩
  have n0_ : Aside0 (Kd.R (Kd.int .i64) 3 w57 w0.heap.size (fun k_ => ((P0_2_ k_ ∨ P0_3_ k_) ∨ w.heap.size ≤ k_) ∧ some k_ ≠ (u9001_ : Value).ownBlock ∧ some k_ ≠ (v215 : Value).ownBlock ∧ some k_ ≠ (v218 : Value).ownBlock) u9000_ l0_2) := ⟨h0_⟩
  have n1_ : Aside0 (Kd.R (Kd.int .i64) 3 w57 w0.heap.size (fun k_ => ((P0_2_ k_ ∨ P0_3_ k_) ∨ w.heap.size ≤ k_) ∧ some k_ ≠ (u9000_ : Value).ownBlock ∧ some k_ ≠ (v215 : Value).ownBlock ∧ some k_ ≠ (v218 : Value).ownBlock) u9001_ l0_3) := ⟨h1_⟩
  have n2_ : Aside0 (Kd.R (Kd.int .i64) 3 w57 w0.heap.size (fun k_ => ((P0_2_ k_ ∨ P0_3_ k_) ∨ w.heap.size ≤ k_) ∧ some k_ ≠ (u9000_ : Value).ownBlock ∧ some k_ ≠ (u9001_ : Value).ownBlock ∧ some k_ ≠ (v218 : Value).ownBlock) v215 t214) := ⟨h2_⟩
  have n3_ : Aside0 (Kd.R (Kd.int .i64) 3 w57 w0.heap.size (fun k_ => ((P0_2_ k_ ∨ P0_3_ k_) ∨ w.heap.size ≤ k_) ∧ some k_ ≠ (u9000_ : Value).ownBlock ∧ some k_ ≠ (u9001_ : Value).ownBlock ∧ some k_ ≠ (v215 : Value).ownBlock) v218 t217) := ⟨h3_⟩
  have n4_ : Aside0 (w57.heap[gi0]? = some (.cells #[.slice A0_0 l0_0.length c0_0, .int .i64 a0_1, u9000_, u9001_, .int .i64 a0_4, .int .i64 a0_5, .bool a0_6] 113 (0, 0))) := ⟨h4_⟩
  have n5_ : Aside0 (w57.heap[gb223]? = some (.cells #[.slice none 0 0, .slice none 0 0, .int .i64 0, .int .i64 0] 28 (0, 0))) := ⟨h5_⟩
  have n6_ : Aside0 (w.heap.size ≤ gb223) := ⟨h6_⟩
  have n7_ : Aside0 (w0.heap.size ≤ gb223) := ⟨h7_⟩
  have n8_ : Aside0 (gi0 ≠ gb223) := ⟨h8_⟩
  have n9_ : Aside0 (gb223 ≠ gi0) := ⟨h9_⟩
  have n10_ : Aside0 (Kept w w57 (fun k_ => (P0_2_ k_ ∨ P0_3_ k_) ∨ k_ = gi0)) := ⟨h10_⟩
  have n11_ : Aside0 (Below w0.heap.size w0 w57) := ⟨h11_⟩
  clear HO0_2
  clear HO0_3
  clear BK0
  clear HK
  clear HB
  clear h0_ h1_ h2_ h3_ h4_ h5_ h6_ h7_ h8_ h9_ h10_ h11_
  have HO0_2 := n0_
  have HO0_3 := n1_
  have HO216 := n2_
  have HO219 := n3_
  have BK0 := n4_
  have BK223 := n5_
  have GW223 := n6_
  have GE223 := n7_
  have NB0_223 := n8_
  have NB223_0 := n9_
  have HK := n10_
  have HB := n11_
  clear n0_ n1_ n2_ n3_ n4_ n5_ n6_ n7_ n8_ n9_ n10_ n11_
  have hHeld : w57.cell? ⟨gi0, 0, none⟩ = some (.slice A0_0 l0_0.length c0_0) ∧ w57.cell? ⟨gi0, 1, none⟩ = some (.int .i64 a0_1) ∧ w57.cell? ⟨gi0, 2, none⟩ = some (u9000_) ∧ w57.cell? ⟨gi0, 3, none⟩ = some (u9001_) ∧ w57.cell? ⟨gi0, 4, none⟩ = some (.int .i64 a0_4) ∧ w57.cell? ⟨gi0, 5, none⟩ = some (.int .i64 a0_5) ∧ w57.cell? ⟨gi0, 6, none⟩ = some (.bool a0_6) := hS_
  obtain ⟨Ao58, co58, eo58⟩ := zaf HO216.out
  (first | subst eo58 | (injection eo58 with f1_ f2_ f3_; have f4_ := f1_.symm; have f5_ := f3_.symm; clear f1_ f2_ f3_; subst f4_; subst f5_))
  obtain ⟨Ao60, co60, eo60⟩ := zaf HO219.out
  (first | subst eo60 | (injection eo60 with f1_ f2_ f3_; have f4_ := f1_.symm; have f5_ := f3_.symm; clear f1_ f2_ f3_; subst f4_; subst f5_))
  refine norm_ (a' := ?_) ?_ ?_
  rotate_left
  ·simp only [putAll, Act.put, List.setIfInBounds_toArray, List.set_cons_zero, List.set_cons_succ]
   rfl
  refine one_ (i := 14) (N := none) b4A19 rfl rfl (one_of HT_.out zG101) zG102 (fun K hK => ?_)
  have hs59 : w57.cell? ⟨gb223, 0, none⟩ = some (.slice none 0 0) := (zg BK223.out 0).trans rfl
  have hfs59 := zh BK223.out 0
  have hns59_0 := NB0_223.out
  have hms59_0 := NB223_0.out
  have hs61 : w57.cell? ⟨gb223, 1, none⟩ = some (.slice none 0 0) := (zg BK223.out 1).trans rfl
  have hfs61 := zh BK223.out 1
  have hns61_0 := NB0_223.out
  have hms61_0 := NB223_0.out
  have hs62 : w57.cell? ⟨gb223, 2, none⟩ = some (.int .i64 0) := (zg BK223.out 2).trans rfl
  have hfs62 := zh BK223.out 2
  have hns62_0 := NB0_223.out
  have hms62_0 := NB223_0.out
  have hs63 : w57.cell? ⟨gb223, 3, none⟩ = some (.int .i64 0) := (zg BK223.out 3).trans rfl
  have hfs63 := zh BK223.out 3
  have hns63_0 := NB0_223.out
  have hms63_0 := NB223_0.out
  refine skip_ (w1 := ?_) (by rfl) rfl ?_ ?_
  rotate_left
  ·go_simp
   rfl
  refine hK.out _ _ ⟨((cell_far (p := ⟨gb223, _, none⟩) NB0_223.out _).trans (((cell_far (p := ⟨gb223, _, none⟩) NB0_223.out _).trans (((cell_far (p := ⟨gb223, _, none⟩) NB0_223.out _).trans (((cell_far (p := ⟨gb223, _, none⟩) NB0_223.out _).trans (hHeld.1)))))))), ((cell_far (p := ⟨gb223, _, none⟩) NB0_223.out _).trans (((cell_far (p := ⟨gb223, _, none⟩) NB0_223.out _).trans (((cell_far (p := ⟨gb223, _, none⟩) NB0_223.out _).trans (((cell_far (p := ⟨gb223, _, none⟩) NB0_223.out _).trans (hHeld.2.1)))))))), ((cell_far (p := ⟨gb223, _, none⟩) NB0_223.out _).trans (((cell_far (p := ⟨gb223, _, none⟩) NB0_223.out _).trans (((cell_far (p := ⟨gb223, _, none⟩) NB0_223.out _).trans (((cell_far (p := ⟨gb223, _, none⟩) NB0_223.out _).trans (hHeld.2.2.1)))))))), ((cell_far (p := ⟨gb223, _, none⟩) NB0_223.out _).trans (((cell_far (p := ⟨gb223, _, none⟩) NB0_223.out _).trans (((cell_far (p := ⟨gb223, _, none⟩) NB0_223.out _).trans (((cell_far (p := ⟨gb223, _, none⟩) NB0_223.out _).trans (hHeld.2.2.2.1)))))))), ((cell_far (p := ⟨gb223, _, none⟩) NB0_223.out _).trans (((cell_far (p := ⟨gb223, _, none⟩) NB0_223.out _).trans (((cell_far (p := ⟨gb223, _, none⟩) NB0_223.out _).trans (((cell_far (p := ⟨gb223, _, none⟩) NB0_223.out _).trans (hHeld.2.2.2.2.1)))))))), ((cell_far (p := ⟨gb223, _, none⟩) NB0_223.out _).trans (((cell_far (p := ⟨gb223, _, none⟩) NB0_223.out _).trans (((cell_far (p := ⟨gb223, _, none⟩) NB0_223.out _).trans (((cell_far (p := ⟨gb223, _, none⟩) NB0_223.out _).trans (hHeld.2.2.2.2.2.1)))))))), ((cell_far (p := ⟨gb223, _, none⟩) NB0_223.out _).trans (((cell_far (p := ⟨gb223, _, none⟩) NB0_223.out _).trans (((cell_far (p := ⟨gb223, _, none⟩) NB0_223.out _).trans (((cell_far (p := ⟨gb223, _, none⟩) NB0_223.out _).trans (hHeld.2.2.2.2.2.2))))))))⟩ (fun hHeld => ?_)
  clear hK K
  refine pure_ (i := 15) (N := some 5) (v := ?_) (a' := ?_) b4A20 rfl rfl (any_of HT_.out zG101) (fun _ _ _ h => h) (Or.inl ⟨by rfl, ?_⟩) ?_ ?_
  rotate_left
  ·intro w'
   go_simp
   with_reducible rfl
  rotate_left
  ·simp only [Act.put, List.setIfInBounds_toArray, List.set_cons_zero, List.set_cons_succ, i64_w, i32_w]
   rfl
  refine done_ (done_of HT_.out zG101) ?_
  have hnb64 := NB0_223.out
  have hnc64 := NB223_0.out
  have hcz65_0 : w57.cell? ⟨gi0, 0, none⟩ = some (.slice A0_0 l0_0.length c0_0) := (zg BK0.out 0).trans rfl
  have hcz65_1 : w57.cell? ⟨gi0, 1, none⟩ = some (.int .i64 a0_1) := (zg BK0.out 1).trans rfl
  have hcz65_2 : w57.cell? ⟨gi0, 2, none⟩ = some (u9000_) := (zg BK0.out 2).trans rfl
  have hcz65_3 : w57.cell? ⟨gi0, 3, none⟩ = some (u9001_) := (zg BK0.out 3).trans rfl
  have hcz65_4 : w57.cell? ⟨gi0, 4, none⟩ = some (.int .i64 a0_4) := (zg BK0.out 4).trans rfl
  have hcz65_5 : w57.cell? ⟨gi0, 5, none⟩ = some (.int .i64 a0_5) := (zg BK0.out 5).trans rfl
  have hcz65_6 : w57.cell? ⟨gi0, 6, none⟩ = some (.bool a0_6) := (zg BK0.out 6).trans rfl
  have hfz65_0 := zh BK0.out 0
  have hfz65_1 := zh BK0.out 1
  have hfz65_2 := zh BK0.out 2
  have hfz65_3 := zh BK0.out 3
  have hfz65_4 := zh BK0.out 4
  have hfz65_5 := zh BK0.out 5
  have hfz65_6 := zh BK0.out 6
  try go_wp2
  go_loopg [6] k (fun kq v6 w' => ∃ (x6_1 : Int) (x1002_1 : List Int) (x1003_1 : List Int) (x1004_1 : Int) (x1005_1 : Int) (x1006_1 : Bool) (u1002 : Value) (u1003 : Value), v6 = .int .i64 x6_1 ∧ Aside0 (spec_l20Search_try.l0 kq l1 x6_1 l0_0 a0_1 x1002_1 x1003_1 x1004_1 x1005_1 x1006_1 = some (r1, r2, r3, r4, r5)) ∧ Aside0 (kq ≤ k) ∧ Aside0 (Kd.R (Kd.int .i64) 3 w' w0.heap.size (fun k_ => ((P0_2_ k_ ∨ P0_3_ k_) ∨ w.heap.size ≤ k_) ∧ some k_ ≠ (u1003 : Value).ownBlock ∧ some k_ ≠ ((.slice Ao58 t214.length co58) : Value).ownBlock ∧ some k_ ≠ ((.slice Ao60 t217.length co60) : Value).ownBlock) u1002 x1002_1) ∧ Aside0 (Kd.R (Kd.int .i64) 3 w' w0.heap.size (fun k_ => ((P0_2_ k_ ∨ P0_3_ k_) ∨ w.heap.size ≤ k_) ∧ some k_ ≠ (u1002 : Value).ownBlock ∧ some k_ ≠ ((.slice Ao58 t214.length co58) : Value).ownBlock ∧ some k_ ≠ ((.slice Ao60 t217.length co60) : Value).ownBlock) u1003 x1003_1) ∧ Aside0 (Kd.R (Kd.int .i64) 3 w' w0.heap.size (fun k_ => ((P0_2_ k_ ∨ P0_3_ k_) ∨ w.heap.size ≤ k_) ∧ some k_ ≠ (u1002 : Value).ownBlock ∧ some k_ ≠ (u1003 : Value).ownBlock ∧ some k_ ≠ ((.slice Ao60 t217.length co60) : Value).ownBlock) (.slice Ao58 t214.length co58) t214) ∧ Aside0 (Kd.R (Kd.int .i64) 3 w' w0.heap.size (fun k_ => ((P0_2_ k_ ∨ P0_3_ k_) ∨ w.heap.size ≤ k_) ∧ some k_ ≠ (u1002 : Value).ownBlock ∧ some k_ ≠ (u1003 : Value).ownBlock ∧ some k_ ≠ ((.slice Ao58 t214.length co58) : Value).ownBlock) (.slice Ao60 t217.length co60) t217) ∧ Aside0 (w'.heap[gi0]? = some (.cells #[(.slice A0_0 l0_0.length c0_0), .int .i64 a0_1, u1002, u1003, .int .i64 x1004_1, .int .i64 x1005_1, .bool x1006_1] 113 (0, 0))) ∧ Aside0 (w'.heap[gb223]? = some (.cells #[(.slice Ao58 t214.length co58), (.slice Ao60 t217.length co60), .int .i64 t220, .int .i64 t221] 28 (0, 0))) ∧ Aside0 (Kept w w' (fun k_ => (P0_2_ k_ ∨ P0_3_ k_) ∨ k_ = gi0)) ∧ Aside0 (Below w0.heap.size w0 w'))
  case atStart => exact ⟨(0), (l0_2), (l0_3), (a0_4), (a0_5), (a0_6), (u9000_), (u9001_), zG100, H', ⟨Nat.le_refl _⟩, ⟨by (with_reducible repeat (first | apply zk | apply zl | apply zm)); exact zp (zn (p := ⟨gb223, 3, none⟩) (zn (p := ⟨gb223, 2, none⟩) (zn (p := ⟨gb223, 1, none⟩) (zn (p := ⟨gb223, 0, none⟩) (zv HO0_2.out BK223.out zG102) (fun _ hk => hk.2) (.slice Ao58 t214.length co58)) (fun _ hk => hk.2) (.slice Ao60 t217.length co60)) (fun _ hk => hk.2) (.int .i64 t220)) (fun _ hk => hk.2) (.int .i64 t221)) (fun _ hk => ⟨hk.1.1, ⟨hk.1.2.1, ⟨hk.1.2.2.1, hk.1.2.2.2⟩⟩⟩)⟩, ⟨by (with_reducible repeat (first | apply zk | apply zl | apply zm)); exact zp (zn (p := ⟨gb223, 3, none⟩) (zn (p := ⟨gb223, 2, none⟩) (zn (p := ⟨gb223, 1, none⟩) (zn (p := ⟨gb223, 0, none⟩) (zv HO0_3.out BK223.out zG102) (fun _ hk => hk.2) (.slice Ao58 t214.length co58)) (fun _ hk => hk.2) (.slice Ao60 t217.length co60)) (fun _ hk => hk.2) (.int .i64 t220)) (fun _ hk => hk.2) (.int .i64 t221)) (fun _ hk => ⟨hk.1.1, ⟨hk.1.2.1, ⟨hk.1.2.2.1, hk.1.2.2.2⟩⟩⟩)⟩, ⟨by (with_reducible repeat (first | apply zk | apply zl | apply zm)); exact zp (zn (p := ⟨gb223, 3, none⟩) (zn (p := ⟨gb223, 2, none⟩) (zn (p := ⟨gb223, 1, none⟩) (zn (p := ⟨gb223, 0, none⟩) (zv HO216.out BK223.out zG102) (fun _ hk => hk.2) (.slice Ao58 t214.length co58)) (fun _ hk => hk.2) (.slice Ao60 t217.length co60)) (fun _ hk => hk.2) (.int .i64 t220)) (fun _ hk => hk.2) (.int .i64 t221)) (fun _ hk => ⟨hk.1.1, ⟨hk.1.2.1, ⟨hk.1.2.2.1, hk.1.2.2.2⟩⟩⟩)⟩, ⟨by (with_reducible repeat (first | apply zk | apply zl | apply zm)); exact zp (zn (p := ⟨gb223, 3, none⟩) (zn (p := ⟨gb223, 2, none⟩) (zn (p := ⟨gb223, 1, none⟩) (zn (p := ⟨gb223, 0, none⟩) (zv HO219.out BK223.out zG102) (fun _ hk => hk.2) (.slice Ao58 t214.length co58)) (fun _ hk => hk.2) (.slice Ao60 t217.length co60)) (fun _ hk => hk.2) (.int .i64 t220)) (fun _ hk => hk.2) (.int .i64 t221)) (fun _ hk => ⟨hk.1.1, ⟨hk.1.2.1, ⟨hk.1.2.2.1, hk.1.2.2.2⟩⟩⟩)⟩, ⟨zH8⟩, ⟨by (with_reducible repeat (first | refine zc ?_ _ | refine zd ?_ | refine zb ?_ _)); refine zw (cs := #[.slice Ao58 t214.length co58, .slice Ao60 t217.length co60, .int .i64 t220, .int .i64 0]) ?_ 3 _ rfl; (with_reducible repeat (first | refine zc ?_ _ | refine zd ?_ | refine zb ?_ _)); refine zw (cs := #[.slice Ao58 t214.length co58, .slice Ao60 t217.length co60, .int .i64 0, .int .i64 0]) ?_ 2 _ rfl; (with_reducible repeat (first | refine zc ?_ _ | refine zd ?_ | refine zb ?_ _)); refine zw (cs := #[.slice Ao58 t214.length co58, .slice none 0 0, .int .i64 0, .int .i64 0]) ?_ 1 _ rfl; (with_reducible repeat (first | refine zc ?_ _ | refine zd ?_ | refine zb ?_ _)); refine zw (cs := #[.slice none 0 0, .slice none 0 0, .int .i64 0, .int .i64 0]) ?_ 0 _ rfl; (with_reducible repeat (first | refine zc ?_ _ | refine zd ?_ | refine zb ?_ _)); exact BK223.out⟩, ⟨zH29⟩, ⟨zH52⟩⟩
  case round =>
   clear H'
   try clear c1
   try clear p2
   try clear c4
   try clear c5
   try clear c5b0
   try clear c5b1
   try clear c5b2
   try clear c6
   try clear c12
   try clear c48
   try clear c64
   try clear hcz49_0
   try clear hcz49_1
   try clear hcz49_2
   try clear hcz49_3
   try clear hcz49_4
   try clear hcz49_5
   try clear hcz49_6
   try clear hcz52_0
   try clear hcz52_1
   try clear hcz52_2
   try clear hcz52_3
   try clear hcz53_0
   try clear hcz53_1
   try clear hcz53_2
   try clear hcz53_3
   try clear hcz53_4
   try clear hcz53_5
   try clear hcz53_6
   try clear hcz65_0
   try clear hcz65_1
   try clear hcz65_2
   try clear hcz65_3
   try clear hcz65_4
   try clear hcz65_5
   try clear hcz65_6
   try clear hfz49_0
   try clear hfz49_1
   try clear hfz49_2
   try clear hfz49_3
   try clear hfz49_4
   try clear hfz49_5
   try clear hfz49_6
   try clear hfz52_0
   try clear hfz52_1
   try clear hfz52_2
   try clear hfz52_3
   try clear hfz53_0
   try clear hfz53_1
   try clear hfz53_2
   try clear hfz53_3
   try clear hfz53_4
   try clear hfz53_5
   try clear hfz53_6
   try clear hfz65_0
   try clear hfz65_1
   try clear hfz65_2
   try clear hfz65_3
   try clear hfz65_4
   try clear hfz65_5
   try clear hfz65_6
   obtain ⟨x6_1, x1002_1, x1003_1, x1004_1, x1005_1, x1006_1, u1002, u1003, rfl, HA, HK1, HO_1002, HO_1003, HO_224000, HO_224001, BK0, BK223, HK, HB⟩ := hrel
   cases gk with
   | zero => exact absurd HA.out (by simp [spec_l20Search_try.l0])
   | succ k1 =>
    have H := HA.out
    clear HA
    simp only [spec_l20Search_try.l0] at H
    by_cases c66 : x6_1 < (l0_0.length : Int)
    rotate_left
    ·rw [if_neg c66] at H
     have c66b0 := decide_eq_false c66
     clear c66
     simp only [Option.some.injEq, Prod.mk.injEq] at H
     obtain ⟨rfl, rfl, rfl, rfl, rfl⟩ := H
     have hnb84 := NB0_223.out
     have hnc84 := NB223_0.out
     have hcz85_0 : wr.cell? ⟨gi0, 0, none⟩ = some (.slice A0_0 l0_0.length c0_0) := (zg BK0.out 0).trans rfl
     have hcz85_1 : wr.cell? ⟨gi0, 1, none⟩ = some (.int .i64 a0_1) := (zg BK0.out 1).trans rfl
     have hcz85_2 : wr.cell? ⟨gi0, 2, none⟩ = some (u1002) := (zg BK0.out 2).trans rfl
     have hcz85_3 : wr.cell? ⟨gi0, 3, none⟩ = some (u1003) := (zg BK0.out 3).trans rfl
     have hcz85_4 : wr.cell? ⟨gi0, 4, none⟩ = some (.int .i64 x1004_1) := (zg BK0.out 4).trans rfl
     have hcz85_5 : wr.cell? ⟨gi0, 5, none⟩ = some (.int .i64 x1005_1) := (zg BK0.out 5).trans rfl
     have hcz85_6 : wr.cell? ⟨gi0, 6, none⟩ = some (.bool x1006_1) := (zg BK0.out 6).trans rfl
     have hfz85_0 := zh BK0.out 0
     have hfz85_1 := zh BK0.out 1
     have hfz85_2 := zh BK0.out 2
     have hfz85_3 := zh BK0.out 3
     have hfz85_4 := zh BK0.out 4
     have hfz85_5 := zh BK0.out 5
     have hfz85_6 := zh BK0.out 6
     go_wp2
     first | go_end0 | ((try simp only [Exit.inBlock, Exit.then]); refine bodyPost_ret (results_none rfl _ _ _) rfl ?_)
     exact ⟨_, _, zH86, by (with_reducible repeat (first | apply zk | apply zl | apply zm)); exact zp HO_1002.out (fun _ hk => ⟨hk.1, hk.2.1⟩), by (with_reducible repeat (first | apply zk | apply zl | apply zm)); exact zp HO_1003.out (fun _ hk => ⟨hk.1, hk.2.1⟩), zG91, zH52, zH29⟩
    rw [if_pos c66] at H
    have c66b0 := decide_eq_true c66
    clear c66
    have H' := za H
    clear H
    have hnb67 := NB0_223.out
    have hnc67 := NB223_0.out
    have hcz68_0 : wr.cell? ⟨gi0, 0, none⟩ = some (.slice A0_0 l0_0.length c0_0) := (zg BK0.out 0).trans rfl
    have hcz68_1 : wr.cell? ⟨gi0, 1, none⟩ = some (.int .i64 a0_1) := (zg BK0.out 1).trans rfl
    have hcz68_2 : wr.cell? ⟨gi0, 2, none⟩ = some (u1002) := (zg BK0.out 2).trans rfl
    have hcz68_3 : wr.cell? ⟨gi0, 3, none⟩ = some (u1003) := (zg BK0.out 3).trans rfl
    have hcz68_4 : wr.cell? ⟨gi0, 4, none⟩ = some (.int .i64 x1004_1) := (zg BK0.out 4).trans rfl
    have hcz68_5 : wr.cell? ⟨gi0, 5, none⟩ = some (.int .i64 x1005_1) := (zg BK0.out 5).trans rfl
    have hcz68_6 : wr.cell? ⟨gi0, 6, none⟩ = some (.bool x1006_1) := (zg BK0.out 6).trans rfl
    have hfz68_0 := zh BK0.out 0
    have hfz68_1 := zh BK0.out 1
    have hfz68_2 := zh BK0.out 2
    have hfz68_3 := zh BK0.out 3
    have hfz68_4 := zh BK0.out 4
    have hfz68_5 := zh BK0.out 5
    have hfz68_6 := zh BK0.out 6
    go_wp2
    go_loopg [7, 8] k1 (fun kq v7 v8 w' => ∃ (x7_2 : Bool) (x8_2 : Int), v7 = .bool x7_2 ∧ v8 = .int .i64 x8_2 ∧ Aside0 (spec_l20Search_try.l1 kq l1 x6_1 x7_2 x8_2 l0_0 a0_1 x1002_1 x1003_1 x1004_1 x1005_1 x1006_1 = some (r1, r2, r3, r4, r5)) ∧ Aside0 (kq ≤ k1) ∧ Aside0 (Kd.R (Kd.int .i64) 3 w' w0.heap.size (fun k_ => ((P0_2_ k_ ∨ P0_3_ k_) ∨ w.heap.size ≤ k_) ∧ some k_ ≠ (u1003 : Value).ownBlock ∧ some k_ ≠ ((.slice Ao58 t214.length co58) : Value).ownBlock ∧ some k_ ≠ ((.slice Ao60 t217.length co60) : Value).ownBlock) u1002 x1002_1) ∧ Aside0 (Kd.R (Kd.int .i64) 3 w' w0.heap.size (fun k_ => ((P0_2_ k_ ∨ P0_3_ k_) ∨ w.heap.size ≤ k_) ∧ some k_ ≠ (u1002 : Value).ownBlock ∧ some k_ ≠ ((.slice Ao58 t214.length co58) : Value).ownBlock ∧ some k_ ≠ ((.slice Ao60 t217.length co60) : Value).ownBlock) u1003 x1003_1) ∧ Aside0 (Kd.R (Kd.int .i64) 3 w' w0.heap.size (fun k_ => ((P0_2_ k_ ∨ P0_3_ k_) ∨ w.heap.size ≤ k_) ∧ some k_ ≠ (u1002 : Value).ownBlock ∧ some k_ ≠ (u1003 : Value).ownBlock ∧ some k_ ≠ ((.slice Ao60 t217.length co60) : Value).ownBlock) (.slice Ao58 t214.length co58) t214) ∧ Aside0 (Kd.R (Kd.int .i64) 3 w' w0.heap.size (fun k_ => ((P0_2_ k_ ∨ P0_3_ k_) ∨ w.heap.size ≤ k_) ∧ some k_ ≠ (u1002 : Value).ownBlock ∧ some k_ ≠ (u1003 : Value).ownBlock ∧ some k_ ≠ ((.slice Ao58 t214.length co58) : Value).ownBlock) (.slice Ao60 t217.length co60) t217) ∧ Aside0 (w'.heap[gi0]? = some (.cells #[(.slice A0_0 l0_0.length c0_0), .int .i64 a0_1, u1002, u1003, .int .i64 x1004_1, .int .i64 x1005_1, .bool x1006_1] 113 (0, 0))) ∧ Aside0 (w'.heap[gb223]? = some (.cells #[(.slice Ao58 t214.length co58), (.slice Ao60 t217.length co60), .int .i64 t220, .int .i64 t221] 28 (0, 0))) ∧ Aside0 (Kept w w' (fun k_ => (P0_2_ k_ ∨ P0_3_ k_) ∨ k_ = gi0)) ∧ Aside0 (Below w0.heap.size w0 w'))
    case atStart => exact ⟨(false), (0), zG100, zG100, H', ⟨Nat.le_refl _⟩, ⟨zH93⟩, ⟨zH94⟩, ⟨zH91⟩, ⟨zH92⟩, ⟨zH85⟩, ⟨zH78⟩, ⟨zH29⟩, ⟨zH52⟩⟩
    case round =>
     clear H'
     try clear c1
     try clear p2
     try clear c4
     try clear c5
     try clear c5b0
     try clear c5b1
     try clear c5b2
     try clear c6
     try clear c12
     try clear c48
     try clear c64
     try clear c66
     try clear c66b0
     try clear c67
     try clear hcz49_0
     try clear hcz49_1
     try clear hcz49_2
     try clear hcz49_3
     try clear hcz49_4
     try clear hcz49_5
     try clear hcz49_6
     try clear hcz52_0
     try clear hcz52_1
     try clear hcz52_2
     try clear hcz52_3
     try clear hcz53_0
     try clear hcz53_1
     try clear hcz53_2
     try clear hcz53_3
     try clear hcz53_4
     try clear hcz53_5
     try clear hcz53_6
     try clear hcz65_0
     try clear hcz65_1
     try clear hcz65_2
     try clear hcz65_3
     try clear hcz65_4
     try clear hcz65_5
     try clear hcz65_6
     try clear hcz68_0
     try clear hcz68_1
     try clear hcz68_2
     try clear hcz68_3
     try clear hcz68_4
     try clear hcz68_5
     try clear hcz68_6
     try clear hfz49_0
     try clear hfz49_1
     try clear hfz49_2
     try clear hfz49_3
     try clear hfz49_4
     try clear hfz49_5
     try clear hfz49_6
     try clear hfz52_0
     try clear hfz52_1
     try clear hfz52_2
     try clear hfz52_3
     try clear hfz53_0
     try clear hfz53_1
     try clear hfz53_2
     try clear hfz53_3
     try clear hfz53_4
     try clear hfz53_5
     try clear hfz53_6
     try clear hfz65_0
     try clear hfz65_1
     try clear hfz65_2
     try clear hfz65_3
     try clear hfz65_4
     try clear hfz65_5
     try clear hfz65_6
     try clear hfz68_0
     try clear hfz68_1
     try clear hfz68_2
     try clear hfz68_3
     try clear hfz68_4
     try clear hfz68_5
     try clear hfz68_6
     try clear p2
     obtain ⟨x7_2, x8_2, rfl, rfl, HA, HK2, HO_1002, HO_1003, HO_224000, HO_224001, BK0, BK223, HK, HB⟩ := hrel
     cases gk with
     | zero => exact absurd HA.out (by simp [spec_l20Search_try.l1])
     | succ k2 =>
      have H := HA.out
      clear HA
      simp only [spec_l20Search_try.l1] at H
      by_cases c69 : x8_2 < (l1.length : Int)
      ·rw [if_pos c69] at H
       have c69b0 := decide_eq_true c69
       clear c69
       by_cases c70 : x7_2 = true
       ·subst c70
        have H1 : (spec_l20Search_try.l1 k2 l1 x6_1 true (wrap64 (x8_2 + 1)) l0_0 a0_1 x1002_1 x1003_1 x1004_1 x1005_1 x1006_1) = some (r1, r2, r3, r4, r5) := by rw [if_pos rfl] at H; exact H
        clear H
        have H := H1
        clear H1
        have H' := za H
        clear H
        go_wp2
        go_roundg k2
        case measure => have := HK1.out; have := HK2.out; omega
        case rel => exact ⟨(true), (wrap64 (x8_2 + 1)), zG100, zG100, H', ⟨zH98⟩, ⟨zH93⟩, ⟨zH94⟩, ⟨zH91⟩, ⟨zH92⟩, ⟨zH85⟩, ⟨zH78⟩, ⟨zH29⟩, ⟨zH52⟩⟩
       replace c70 := Bool.eq_false_iff.mpr c70
       subst c70
       have H1 : (if 0 ≤ x8_2 then (spec_l20Search_try.l1 k2 l1 x6_1 ((rd l1 x8_2) == x6_1) (wrap64 (x8_2 + 1)) l0_0 a0_1 x1002_1 x1003_1 x1004_1 x1005_1 x1006_1) else (none)) = some (r1, r2, r3, r4, r5) := by rw [if_neg (show ¬ (false = true) by decide)] at H; exact H
       clear H
       have H := H1
       clear H1
       by_cases c71 : 0 ≤ x8_2
       rotate_left
       ·rw [if_neg c71] at H
        exact absurd H (by simp)
       rw [if_pos c71] at H
       have c71b0 := decide_eq_true c71
       clear c71
       have H' := za H
       clear H
       have p224 : 0 ≤ (x8_2 : Int) := zO
       have q224 : x8_2 < (l1.length : Int) := zO
       obtain ⟨ad224, e224, hx224_0⟩ := zas (zah HR1.out HK.out) x8_2 p224 q224
       cases e224
       replace p224 := eq_true p224
       replace q224 := eq_true q224
       go_wp2
       go_roundg k2
       case measure => have := HK1.out; have := HK2.out; omega
       case rel => exact ⟨(((rd l1 x8_2) == x6_1)), (wrap64 (x8_2 + 1)), zG100, zG100, H', ⟨zH98⟩, ⟨zH93⟩, ⟨zH94⟩, ⟨zH91⟩, ⟨zH92⟩, ⟨zH85⟩, ⟨zH78⟩, ⟨zH29⟩, ⟨zH52⟩⟩
      rw [if_neg c69] at H
      have c69b0 := decide_eq_false c69
      clear c69
      by_cases c72 : x7_2 = true
      ·subst c72
       have H1 : (spec_l20Search_try.l0 k2 l1 (wrap64 (x6_1 + 1)) l0_0 a0_1 x1002_1 x1003_1 x1004_1 x1005_1 x1006_1) = some (r1, r2, r3, r4, r5) := by rw [if_pos rfl] at H; exact H
       clear H
       have H := H1
       clear H1
       have H' := za H
       clear H
       go_wp2
       go_roundg k2
       case measure => have := HK1.out; have := HK2.out; omega
       case rel => exact ⟨(wrap64 (x6_1 + 1)), (x1002_1), (x1003_1), (x1004_1), (x1005_1), (x1006_1), (u1002), (u1003), zG100, H', ⟨zH98⟩, ⟨zH93⟩, ⟨zH94⟩, ⟨zH91⟩, ⟨zH92⟩, ⟨zH85⟩, ⟨zH78⟩, ⟨zH29⟩, ⟨zH52⟩⟩
      replace c72 := Bool.eq_false_iff.mpr c72
      subst c72
      have H1 : ((some (([] : List Int) : List Int)).bind fun y225 => (if y225.length + l1.length < 17592186044416 then ((some (y225 ++ l1 : List Int)).bind fun y228 => (if y228.length < 17592186044416 then ((spec_l20Search_try.f k2 l0_0 a0_1 x1002_1 x1003_1 x1004_1 x1005_1 x1006_1 (y228 ++ [x6_1])).bind fun bt234 => (spec_l20Search_try.l0 k2 l1 (wrap64 (x6_1 + 1)) l0_0 a0_1 bt234.1 bt234.2.1 bt234.2.2.1 bt234.2.2.2.1 bt234.2.2.2.2)) else (none))) else (none))) = some (r1, r2, r3, r4, r5) := by rw [if_neg (show ¬ (false = true) by decide)] at H; exact H
      clear H
      have H := H1
      clear H1
      obtain ⟨y225, hy225⟩ : ∃ y_ : List Int, y_ = (([] : List Int)) := ⟨_, rfl⟩
      replace H : (if y225.length + l1.length < 17592186044416 then ((some (y225 ++ l1 : List Int)).bind fun y228 => (if y228.length < 17592186044416 then ((spec_l20Search_try.f k2 l0_0 a0_1 x1002_1 x1003_1 x1004_1 x1005_1 x1006_1 (y228 ++ [x6_1])).bind fun bt234 => (spec_l20Search_try.l0 k2 l1 (wrap64 (x6_1 + 1)) l0_0 a0_1 bt234.1 bt234.2.1 bt234.2.2.1 bt234.2.2.2.1 bt234.2.2.2.2)) else (none))) else (none)) = some (r1, r2, r3, r4, r5) := by first | (rw [hy225]; with_reducible exact H) | (have H2_ := (Option.bind_some _ _).symm.trans H; rw [hy225]; with_reducible exact H2_) | (have H2_ := (Option.bind_some _ _).symm.trans H; with_reducible exact H2_) | with_reducible exact H | (rw [hy225]; exact H) | exact H
      have Ny225 := za hy225
      clear hy225
      by_cases c73 : y225.length + l1.length < 17592186044416
      rotate_left
      ·rw [if_neg c73] at H
       exact absurd H (by simp)
      rw [if_pos c73] at H
      have LMc73 := za c73
      clear c73
      obtain ⟨y228, hy228⟩ : ∃ y_ : List Int, y_ = (y225 ++ l1) := ⟨_, rfl⟩
      replace H : (if y228.length < 17592186044416 then ((spec_l20Search_try.f k2 l0_0 a0_1 x1002_1 x1003_1 x1004_1 x1005_1 x1006_1 (y228 ++ [x6_1])).bind fun bt234 => (spec_l20Search_try.l0 k2 l1 (wrap64 (x6_1 + 1)) l0_0 a0_1 bt234.1 bt234.2.1 bt234.2.2.1 bt234.2.2.2.1 bt234.2.2.2.2)) else (none)) = some (r1, r2, r3, r4, r5) := by first | (rw [hy228]; with_reducible exact H) | (have H2_ := (Option.bind_some _ _).symm.trans H; rw [hy228]; with_reducible exact H2_) | (have H2_ := (Option.bind_some _ _).symm.trans H; with_reducible exact H2_) | with_reducible exact H | (rw [hy228]; exact H) | exact H
      have Ny228 := za hy228
      clear hy228
      by_cases c74 : y228.length < 17592186044416
      rotate_left
      ·rw [if_neg c74] at H
       exact absurd H (by simp)
      rw [if_pos c74] at H
      have LMc74 := za c74
      clear c74
      obtain ⟨y231, hy231⟩ : ∃ y_ : List Int, y_ = (y228 ++ [x6_1]) := ⟨_, rfl⟩
      replace H : ((spec_l20Search_try.f k2 l0_0 a0_1 x1002_1 x1003_1 x1004_1 x1005_1 x1006_1 y231).bind fun bt234 => (spec_l20Search_try.l0 k2 l1 (wrap64 (x6_1 + 1)) l0_0 a0_1 bt234.1 bt234.2.1 bt234.2.2.1 bt234.2.2.2.1 bt234.2.2.2.2)) = some (r1, r2, r3, r4, r5) := by first | (rw [hy231]; with_reducible exact H) | (have H2_ := (Option.bind_some _ _).symm.trans H; rw [hy231]; with_reducible exact H2_) | (have H2_ := (Option.bind_some _ _).symm.trans H; with_reducible exact H2_) | with_reducible exact H | (rw [hy231]; exact H) | exact H
      have Ny231 := za hy231
      clear hy231
      replace H := Option.bind_eq_some_iff.mp H
      obtain ⟨⟨t234, t237, t240, t241, t242⟩, A750, H⟩ := H
      replace H : (spec_l20Search_try.l0 k2 l1 (wrap64 (x6_1 + 1)) l0_0 a0_1 t234 t237 t240 t241 t242) = some (r1, r2, r3, r4, r5) := H
      have A75 := za A750
      clear A750
      have H' := za H
      clear H
      go_wp2_with (first | ((with_reducible refine gate_dst (N := 81) rfl ?_); refine Kd.R_lit (Kd.int .i64) _ 3 ?hg (N := 81) ?hd (xs := ([] : List Int)) (inner := []) (ok := fun _ => True) (okp := fun _ => True) ?hr ?hp (fun _ hk => hk) trivial (Below.refl _ _) (Nat.le_refl _) (by simp) ?_; (case hd => rfl); (case hg => rfl); (case hr => exact zH99); (case hp => exact (Reps.none _ _)); intro v226 w76 ho77 hb hg_ hnew_; clear hg_ hnew_; (first | rw [← Ny225.out] at ho77 | (simp only [Int.reduceToNat] at ho77; rw [← Ny225.out] at ho77)); have n_ := zA_ (za (zba zK202 (zac ho77) hb)) (zA_ (za (zba zK203 (zac ho77) hb)) (zA_ (za (zba zK198 (zac ho77) hb)) (zA_ (za (zba zK199 (zac ho77) hb)) (zA_ (za (zag (zad (zad (zad (zad (zal (M := fun k_ => ((P0_2_ k_ ∨ P0_3_ k_) ∨ w.heap.size ≤ k_)) ho77 zG60 (fun k_ h_ => .inr h_)) (zaa zK202)) (zaa zK203)) (zaa zK198)) (zaa zK199)) (zq zG67))) (zA_ (za (zr (g := gi0) (o := .cells #[.slice A0_0 l0_0.length c0_0, .int .i64 a0_1, u1002, u1003, .int .i64 x1004_1, .int .i64 x1005_1, .bool x1006_1] 113 (0, 0)) zG91 hb)) (zA_ (za (zr (g := gb223) (o := .cells #[.slice Ao58 t214.length co58, .slice Ao60 t217.length co60, .int .i64 t220, .int .i64 t221] 28 (0, 0)) zG86 hb)) (zA_ (za (Kept.below (S := (fun k_ => (P0_2_ k_ ∨ P0_3_ k_) ∨ k_ = gi0)) zG63 hb)) (za (zu zG67 hb))))))))); clear HO_1002 HO_1003 HO_224000 HO_224001 BK0 BK223 HK HB; obtain ⟨HO_1002, HO_1003, HO_224000, HO_224001, HO227, BK0, BK223, HK, HB⟩ := n_; clear hb ho77) | ((with_reducible refine gate_builtin (b := .append) (xs := #[.tmp 81, .tmp 82]) rfl ?_); at_builtin; refine Kd.R_append_rows (Kd.int .i64) (w0 := w0) w0.heap.size rfl (.tmp 81) (.tmp 82) 24 3 (.int .i64 0) 8 rfl Try.underlying24 info3 rfl zG102 (by omega) v226 y225 l1 _ _ _ (fun k_ => ((P0_2_ k_ ∨ P0_3_ k_) ∨ w.heap.size ≤ k_) ∧ some k_ ≠ (u1002 : Value).ownBlock ∧ some k_ ≠ (u1003 : Value).ownBlock ∧ some k_ ≠ (.slice Ao58 t214.length co58 : Value).ownBlock ∧ some k_ ≠ (.slice Ao60 t217.length co60 : Value).ownBlock) (fun _ => False) rfl rfl ?aO ?aR (fun _ _ h => h) (fun _ h => h.elim) ?aF ?aB ?aS ?aL ?_; (case aR => exact zah HR1.out zG63); (case aB => exact zG67); (case aF => exact zH10); (case aO => exact (by (with_reducible repeat (first | apply zk | apply zl | apply zm)); exact zp HO227.out (fun _ hk => ⟨hk.1.1.1.1.1, ⟨hk.1.1.1.2, ⟨hk.1.1.2, ⟨hk.1.2, hk.2⟩⟩⟩⟩))); (case aS => exact (zq zG67)); (case aL => have := LMc73.out; omega); intro v229 w78 ho hb hg hat; rw [← Ny228.out] at ho; have n_ := zA_ (za (zar (ok := (fun k_ => ((P0_2_ k_ ∨ P0_3_ k_) ∨ w.heap.size ≤ k_) ∧ some k_ ≠ (u1003 : Value).ownBlock ∧ some k_ ≠ (.slice Ao58 t214.length co58 : Value).ownBlock ∧ some k_ ≠ (.slice Ao60 t217.length co60 : Value).ownBlock)) zK202 hg hat)) (zA_ (za (zar (ok := (fun k_ => ((P0_2_ k_ ∨ P0_3_ k_) ∨ w.heap.size ≤ k_) ∧ some k_ ≠ (u1002 : Value).ownBlock ∧ some k_ ≠ (.slice Ao58 t214.length co58 : Value).ownBlock ∧ some k_ ≠ (.slice Ao60 t217.length co60 : Value).ownBlock)) zK203 hg hat)) (zA_ (za (zar (ok := (fun k_ => ((P0_2_ k_ ∨ P0_3_ k_) ∨ w.heap.size ≤ k_) ∧ some k_ ≠ (u1002 : Value).ownBlock ∧ some k_ ≠ (u1003 : Value).ownBlock ∧ some k_ ≠ (.slice Ao60 t217.length co60 : Value).ownBlock)) zK198 hg hat)) (zA_ (za (zar (ok := (fun k_ => ((P0_2_ k_ ∨ P0_3_ k_) ∨ w.heap.size ≤ k_) ∧ some k_ ≠ (u1002 : Value).ownBlock ∧ some k_ ≠ (u1003 : Value).ownBlock ∧ some k_ ≠ (.slice Ao58 t214.length co58 : Value).ownBlock)) zK199 hg hat)) (zA_ (za (zap (g := gi0) (o := .cells #[.slice A0_0 l0_0.length c0_0, .int .i64 a0_1, u1002, u1003, .int .i64 x1004_1, .int .i64 x1005_1, .bool x1006_1] 113 (0, 0)) zG91 hg (zaj HO227.out BK0.out zG102))) (zA_ (za (zap (g := gb223) (o := .cells #[.slice Ao58 t214.length co58, .slice Ao60 t217.length co60, .int .i64 t220, .int .i64 t221] 28 (0, 0)) zG86 hg (zaj HO227.out BK223.out zG102))) (zA_ (za (hb)) (zA_ (za (zay (S := (fun k_ => (P0_2_ k_ ∨ P0_3_ k_) ∨ k_ = gi0)) hg zG63 (fun k_ e_ => (Or.imp_left (fun z_ => (Or.inl z_)) ((HO227.out.1 k_ e_).1.1.1.1.1))))) (za (ho))))))))); clear HO_1002 HO_1003 HO_224000 HO_224001 BK0 BK223 HB HK HO227; obtain ⟨HO_1002, HO_1003, HO_224000, HO_224001, BK0, BK223, HB, HK, HO230⟩ := n_; clear ho hb hg hat) | ((with_reducible refine gate_builtin (b := .append) (xs := #[.tmp 83, .tmp 85]) rfl ?_); at_builtin; refine Kd.R_append (Kd.int .i64) (w0 := w0) w0.heap.size rfl (.tmp 83) (.tmp 85) 24 3 (.int .i64 0) 8 rfl Try.underlying24 info3 rfl zG102 (by omega) v229 y228 x6_1 [.int .i64 x6_1] (fun k_ => ((P0_2_ k_ ∨ P0_3_ k_) ∨ w.heap.size ≤ k_) ∧ some k_ ≠ (u1002 : Value).ownBlock ∧ some k_ ≠ (u1003 : Value).ownBlock ∧ some k_ ≠ (.slice Ao58 t214.length co58 : Value).ownBlock ∧ some k_ ≠ (.slice Ao60 t217.length co60 : Value).ownBlock) (fun _ => False) rfl rfl ?aP (fun _ hk => hk.elim) ?aF ?aO ?aB ?aS ?aL ?_; (case aP => exact rfl); (case aB => exact zG67); (case aF => exact zH10); (case aO => exact (by (with_reducible repeat (first | apply zk | apply zl | apply zm)); exact HO230.out)); (case aS => exact (zq zG67)); (case aL => have := LMc74.out; omega); intro v232 w79 ho hb hg hat; rw [← Ny231.out] at ho; have n_ := zA_ (za (zar (ok := (fun k_ => ((P0_2_ k_ ∨ P0_3_ k_) ∨ w.heap.size ≤ k_) ∧ some k_ ≠ (u1003 : Value).ownBlock ∧ some k_ ≠ (.slice Ao58 t214.length co58 : Value).ownBlock ∧ some k_ ≠ (.slice Ao60 t217.length co60 : Value).ownBlock)) zK202 hg hat)) (zA_ (za (zar (ok := (fun k_ => ((P0_2_ k_ ∨ P0_3_ k_) ∨ w.heap.size ≤ k_) ∧ some k_ ≠ (u1002 : Value).ownBlock ∧ some k_ ≠ (.slice Ao58 t214.length co58 : Value).ownBlock ∧ some k_ ≠ (.slice Ao60 t217.length co60 : Value).ownBlock)) zK203 hg hat)) (zA_ (za (zar (ok := (fun k_ => ((P0_2_ k_ ∨ P0_3_ k_) ∨ w.heap.size ≤ k_) ∧ some k_ ≠ (u1002 : Value).ownBlock ∧ some k_ ≠ (u1003 : Value).ownBlock ∧ some k_ ≠ (.slice Ao60 t217.length co60 : Value).ownBlock)) zK198 hg hat)) (zA_ (za (zar (ok := (fun k_ => ((P0_2_ k_ ∨ P0_3_ k_) ∨ w.heap.size ≤ k_) ∧ some k_ ≠ (u1002 : Value).ownBlock ∧ some k_ ≠ (u1003 : Value).ownBlock ∧ some k_ ≠ (.slice Ao58 t214.length co58 : Value).ownBlock)) zK199 hg hat)) (zA_ (za (zap (g := gi0) (o := .cells #[.slice A0_0 l0_0.length c0_0, .int .i64 a0_1, u1002, u1003, .int .i64 x1004_1, .int .i64 x1005_1, .bool x1006_1] 113 (0, 0)) zG91 hg (zaj HO230.out BK0.out zG102))) (zA_ (za (zap (g := gb223) (o := .cells #[.slice Ao58 t214.length co58, .slice Ao60 t217.length co60, .int .i64 t220, .int .i64 t221] 28 (0, 0)) zG86 hg (zaj HO230.out BK223.out zG102))) (zA_ (za (hb)) (zA_ (za (zay (S := (fun k_ => (P0_2_ k_ ∨ P0_3_ k_) ∨ k_ = gi0)) hg zG63 (fun k_ e_ => (Or.imp_left (fun z_ => (Or.inl z_)) ((HO230.out.1 k_ e_).1))))) (za (ho))))))))); clear HO_1002 HO_1003 HO_224000 HO_224001 BK0 BK223 HB HK HO230; obtain ⟨HO_1002, HO_1003, HO_224000, HO_224001, BK0, BK223, HB, HK, HO233⟩ := n_; clear ho hb hg hat; obtain ⟨Ao80, co80, eo80⟩ := zaf HO_1002.out; subst eo80; obtain ⟨Ao81, co81, eo81⟩ := zaf HO_1003.out; subst eo81; obtain ⟨Ao82, co82, eo82⟩ := zaf HO233.out; subst eo82) | ((with_reducible refine gate_callee (f := 69) rfl ?_); refine goesL_ (some 87) rfl rfl Try.func69 zG101 rfl #[.pointer (some ⟨gi0, 0, none⟩), .slice Ao82 y231.length co82] rfl zG68 ?_; (with_reducible refine (ih k2 (by have := HK1.out; have := HK2.out; omega) gi0 A0_0 c0_0 l0_0 a0_1 (fun k_ => some k_ = (.slice Ao80 x1002_1.length co80 : Value).ownBlock) (.slice Ao80 x1002_1.length co80) x1002_1 (fun k_ => some k_ = (.slice Ao81 x1003_1.length co81 : Value).ownBlock) (.slice Ao81 x1003_1.length co81) x1003_1 x1004_1 x1005_1 x1006_1 _ _ y231 t234 t237 t240 t241 t242 w0 _ ?side1 ?side2 ?side3 ?side4 ?side5 ?side6 ?side7 ?side8 ?side9 ?side10 ?side11 A75.out).mono ?_); (case side1 => repeat (first | (with_reducible first | exact HB.out | apply zj | apply ze | apply zi | refine zf ?_ GE0.out | refine zf ?_ GE223.out) | exact HB.out)); (case side2 => exact zG91); (case side3 => exact GE0.out); (case side4 => exact zbe HR0_0.out zG63 (fun k_ hs_ => Or.elim hs_ (fun hs_ => Or.elim hs_ (fun e_ => (fun e_ => (Or.imp_left (fun z_ => (Or.inl z_)) ((HO_1002.out.1 k_ e_.symm).1.1))) e_) (fun e_ => (fun e_ => (Or.imp_left (fun z_ => (Or.inl z_)) ((HO_1003.out.1 k_ e_.symm).1.1))) e_)) (fun e_ => .inl (Or.inr e_)))); (case side5 => exact HC0_0.out); (case side6 => exact zaq rfl HO_1002.out); (case side7 => exact fun k_ e_ => (HO_1002.out.1 k_ e_.symm).1.2.1); (case side8 => exact zaq rfl HO_1003.out); (case side9 => exact fun k_ e_ => (HO_1003.out.1 k_ e_.symm).1.2.1); (case side10 => exact zbf ((zv HO233.out BK0.out zG102)) (fun k_ hk_ hs_ => Or.elim hs_ (fun hs_ => Or.elim hs_ (fun e_ => (hk_.1.2.1) e_) (fun e_ => (hk_.1.2.2.1) e_)) (fun e_ => (hk_.2) e_))); (case side11 => exact (Kd.R_reads' HO233.out).2.1); rintro e w83 ⟨v235, v238, rfl, ho0, ho1, hz0, hb, hkp⟩; refine ⟨_, rfl, ?_⟩; have n_ := zA_ (za (zp (ok' := fun k_ => ((P0_2_ k_ ∨ P0_3_ k_) ∨ w.heap.size ≤ k_) ∧ some k_ ≠ (.slice Ao60 t217.length co60 : Value).ownBlock ∧ some k_ ≠ (.slice Ao82 y231.length co82 : Value).ownBlock ∧ some k_ ≠ (v235 : Value).ownBlock ∧ some k_ ≠ (v238 : Value).ownBlock) (zan ((zv HO_224000.out BK0.out zG102)) hkp (fun k_ hk_ hs_ => Or.elim hs_ (fun hs_ => Or.elim hs_ (fun e_ => (hk_.1.1.2.1) e_) (fun e_ => (hk_.1.1.2.2.1) e_)) (fun e_ => (hk_.2) e_))) (fun k_ hk_ => ⟨hk_.1.1.1.1, hk_.1.1.1.2.2.2, hk_.1.1.2, fun e_ => Or.elim (ho0.1 k_ e_.symm).1 (fun hs_ => hk_.2.1 (Or.inl hs_)) (fun hn_ => Nat.not_le.2 hk_.2.2 hn_), fun e_ => Or.elim (ho1.1 k_ e_.symm).1 (fun hs_ => hk_.2.1 (Or.inl hs_)) (fun hn_ => Nat.not_le.2 hk_.2.2 hn_)⟩))) (zA_ (za (zp (ok' := fun k_ => ((P0_2_ k_ ∨ P0_3_ k_) ∨ w.heap.size ≤ k_) ∧ some k_ ≠ (.slice Ao58 t214.length co58 : Value).ownBlock ∧ some k_ ≠ (.slice Ao82 y231.length co82 : Value).ownBlock ∧ some k_ ≠ (v235 : Value).ownBlock ∧ some k_ ≠ (v238 : Value).ownBlock) (zan ((zv HO_224001.out BK0.out zG102)) hkp (fun k_ hk_ hs_ => Or.elim hs_ (fun hs_ => Or.elim hs_ (fun e_ => (hk_.1.1.2.1) e_) (fun e_ => (hk_.1.1.2.2.1) e_)) (fun e_ => (hk_.2) e_))) (fun k_ hk_ => ⟨hk_.1.1.1.1, hk_.1.1.1.2.2.2, hk_.1.1.2, fun e_ => Or.elim (ho0.1 k_ e_.symm).1 (fun hs_ => hk_.2.1 (Or.inl hs_)) (fun hn_ => Nat.not_le.2 hk_.2.2 hn_), fun e_ => Or.elim (ho1.1 k_ e_.symm).1 (fun hs_ => hk_.2.1 (Or.inl hs_)) (fun hn_ => Nat.not_le.2 hk_.2.2 hn_)⟩))) (zA_ (za (hz0)) (zA_ (za (zao zG86 hkp (fun hs_ => Or.elim hs_ (fun hs_ => Or.elim hs_ (fun e_ => (fun e_ => (zaj HO_1002.out BK223.out zG102) e_) e_) (fun e_ => (fun e_ => (zaj HO_1003.out BK223.out zG102) e_) e_)) (fun e_ => NB223_0.out e_)))) (zA_ (za (zp (ok' := fun k_ => ((P0_2_ k_ ∨ P0_3_ k_) ∨ w.heap.size ≤ k_) ∧ some k_ ≠ (.slice Ao58 t214.length co58 : Value).ownBlock ∧ some k_ ≠ (.slice Ao60 t217.length co60 : Value).ownBlock ∧ some k_ ≠ (v235 : Value).ownBlock ∧ some k_ ≠ (v238 : Value).ownBlock) (zan ((zv HO233.out BK0.out zG102)) hkp (fun k_ hk_ hs_ => Or.elim hs_ (fun hs_ => Or.elim hs_ (fun e_ => (hk_.1.2.1) e_) (fun e_ => (hk_.1.2.2.1) e_)) (fun e_ => (hk_.2) e_))) (fun k_ hk_ => ⟨hk_.1.1.1, hk_.1.1.2.2.2.1, hk_.1.1.2.2.2.2, fun e_ => Or.elim (ho0.1 k_ e_.symm).1 (fun hs_ => hk_.2.1 (Or.inl hs_)) (fun hn_ => Nat.not_le.2 hk_.2.2 hn_), fun e_ => Or.elim (ho1.1 k_ e_.symm).1 (fun hs_ => hk_.2.1 (Or.inl hs_)) (fun hn_ => Nat.not_le.2 hk_.2.2 hn_)⟩))) (zA_ (za (zp (ok' := fun k_ => ((P0_2_ k_ ∨ P0_3_ k_) ∨ w.heap.size ≤ k_) ∧ some k_ ≠ (v238 : Value).ownBlock ∧ some k_ ≠ (.slice Ao58 t214.length co58 : Value).ownBlock ∧ some k_ ≠ (.slice Ao60 t217.length co60 : Value).ownBlock ∧ some k_ ≠ (.slice Ao82 y231.length co82 : Value).ownBlock) ho0 (fun k_ hk_ => ⟨Or.elim hk_.1 (fun hs_ => Or.elim hs_ (fun hs_ => (HO_1002.out.1 k_ (hs_).symm).1.1) (fun hs_ => (HO_1003.out.1 k_ (hs_).symm).1.1)) (fun hn_ => (.inr (Nat.le_trans zG60 hn_))), hk_.2, Or.elim hk_.1 (fun hs_ => Or.elim hs_ (fun hs_ => fun e_ => ((((zv HO_224000.out BK0.out zG102)).1 k_ e_.symm).1.1.2.1) hs_) (fun hs_ => fun e_ => ((((zv HO_224000.out BK0.out zG102)).1 k_ e_.symm).1.1.2.2.1) hs_)) (fun hn_ => (Kd.fresh' (zaa zK198) k_ hn_)), Or.elim hk_.1 (fun hs_ => Or.elim hs_ (fun hs_ => fun e_ => ((((zv HO_224001.out BK0.out zG102)).1 k_ e_.symm).1.1.2.1) hs_) (fun hs_ => fun e_ => ((((zv HO_224001.out BK0.out zG102)).1 k_ e_.symm).1.1.2.2.1) hs_)) (fun hn_ => (Kd.fresh' (zaa zK199) k_ hn_)), Or.elim hk_.1 (fun hs_ => Or.elim hs_ (fun hs_ => fun e_ => ((((zv HO233.out BK0.out zG102)).1 k_ e_.symm).1.2.1) hs_) (fun hs_ => fun e_ => ((((zv HO233.out BK0.out zG102)).1 k_ e_.symm).1.2.2.1) hs_)) (fun hn_ => (Kd.fresh' (zaa (by (with_reducible repeat (first | apply zk | apply zl | apply zm)); exact HO233.out)) k_ hn_))⟩))) (zA_ (za (zp (ok' := fun k_ => ((P0_2_ k_ ∨ P0_3_ k_) ∨ w.heap.size ≤ k_) ∧ some k_ ≠ (v235 : Value).ownBlock ∧ some k_ ≠ (.slice Ao58 t214.length co58 : Value).ownBlock ∧ some k_ ≠ (.slice Ao60 t217.length co60 : Value).ownBlock ∧ some k_ ≠ (.slice Ao82 y231.length co82 : Value).ownBlock) ho1 (fun k_ hk_ => ⟨Or.elim hk_.1 (fun hs_ => Or.elim hs_ (fun hs_ => (HO_1002.out.1 k_ (hs_).symm).1.1) (fun hs_ => (HO_1003.out.1 k_ (hs_).symm).1.1)) (fun hn_ => (.inr (Nat.le_trans zG60 hn_))), hk_.2, Or.elim hk_.1 (fun hs_ => Or.elim hs_ (fun hs_ => fun e_ => ((((zv HO_224000.out BK0.out zG102)).1 k_ e_.symm).1.1.2.1) hs_) (fun hs_ => fun e_ => ((((zv HO_224000.out BK0.out zG102)).1 k_ e_.symm).1.1.2.2.1) hs_)) (fun hn_ => (Kd.fresh' (zaa zK198) k_ hn_)), Or.elim hk_.1 (fun hs_ => Or.elim hs_ (fun hs_ => fun e_ => ((((zv HO_224001.out BK0.out zG102)).1 k_ e_.symm).1.1.2.1) hs_) (fun hs_ => fun e_ => ((((zv HO_224001.out BK0.out zG102)).1 k_ e_.symm).1.1.2.2.1) hs_)) (fun hn_ => (Kd.fresh' (zaa zK199) k_ hn_)), Or.elim hk_.1 (fun hs_ => Or.elim hs_ (fun hs_ => fun e_ => ((((zv HO233.out BK0.out zG102)).1 k_ e_.symm).1.2.1) hs_) (fun hs_ => fun e_ => ((((zv HO233.out BK0.out zG102)).1 k_ e_.symm).1.2.2.1) hs_)) (fun hn_ => (Kd.fresh' (zaa (by (with_reducible repeat (first | apply zk | apply zl | apply zm)); exact HO233.out)) k_ hn_))⟩))) (zA_ (za (zbg (S := (fun k_ => (P0_2_ k_ ∨ P0_3_ k_) ∨ k_ = gi0)) zG63 hkp (fun k_ hs_ => Or.elim hs_ (fun hs_ => Or.elim hs_ (fun e_ => (fun e_ => (Or.imp_left (fun z_ => (Or.inl z_)) ((HO_1002.out.1 k_ e_.symm).1.1))) e_) (fun e_ => (fun e_ => (Or.imp_left (fun z_ => (Or.inl z_)) ((HO_1003.out.1 k_ e_.symm).1.1))) e_)) (fun e_ => .inl (Or.inr e_))))) (za (hb))))))))); clear HO_224000 HO_224001 BK0 BK223 HO233 HK HB HO_1002 HO_1003; obtain ⟨HO_224000, HO_224001, BK0, BK223, HO233, HO236, HO239, HK, HB⟩ := n_; (try clear hb); (try clear hkp); (try clear ho0); (try clear ho1); (try clear hz0)))
      go_roundg k2
      case measure => have := HK1.out; have := HK2.out; omega
      case rel => exact ⟨(wrap64 (x6_1 + 1)), (t234), (t237), (t240), (t241), (t242), (v235), (v238), zG100, H', ⟨zH98⟩, ⟨by (with_reducible repeat (first | apply zk | apply zl | apply zm)); exact zp HO236.out (fun _ hk => ⟨hk.1, ⟨hk.2.1, ⟨hk.2.2.1, hk.2.2.2.1⟩⟩⟩)⟩, ⟨by (with_reducible repeat (first | apply zk | apply zl | apply zm)); exact zp HO239.out (fun _ hk => ⟨hk.1, ⟨hk.2.1, ⟨hk.2.2.1, hk.2.2.2.1⟩⟩⟩)⟩, ⟨by (with_reducible repeat (first | apply zk | apply zl | apply zm)); exact zp HO_224000.out (fun _ hk => ⟨hk.1, ⟨hk.2.2.2.1, ⟨hk.2.2.2.2, hk.2.1⟩⟩⟩)⟩, ⟨by (with_reducible repeat (first | apply zk | apply zl | apply zm)); exact zp HO_224001.out (fun _ hk => ⟨hk.1, ⟨hk.2.2.2.1, ⟨hk.2.2.2.2, hk.2.1⟩⟩⟩)⟩, ⟨zH85⟩, ⟨zH78⟩, ⟨zH29⟩, ⟨zH52⟩⟩
 rw [if_pos c5] at H
 have c5b0 : ((l1.length : Int) == (l0_0.length : Int)) = true := beq_iff_eq.mpr c5
 have c5b1 : ((l1.length : Int) != (l0_0.length : Int)) = false := bne_eq_false_iff_eq.mpr c5
 have c5b2 : (l1.length == l0_0.length) = true := by first | simpa using c5 | (simp at c5 ⊢; omega)
 clear c5
 by_cases c6 : a0_6 = true
 rotate_left
 ·replace c6 := Bool.eq_false_iff.mpr c6
  subst c6
  have H1 : (some (t214, t217, t220, t221, true)) = some (r1, r2, r3, r4, r5) := by rw [if_neg (show ¬ (false = true) by decide)] at H; exact H
  clear H
  have H := H1
  clear H1
  simp only [Option.some.injEq, Prod.mk.injEq] at H
  obtain ⟨rfl, rfl, rfl, rfl, rfl⟩ := H
  go_enter Try.func69, Try.ntmps69
  try go_wp2
  have n0_ := za (zm HO0_2.out)
  have n1_ := za (zm HO0_3.out)
  have n2_ := za (zd BK0.out)
  have n3_ := za (Kept.drew HK.out)
  have n4_ := za (zi HB.out)
  clear HO0_2
  clear HO0_3
  clear BK0
  clear HK
  clear HB
  have HO0_2 := n0_
  have HO0_3 := n1_
  have BK0 := n2_
  have HK := n3_
  have HB := n4_
  clear n0_ n1_ n2_ n3_ n4_
  refine start_ (n := 16) (S := fun w' => w'.cell? ⟨gi0, 0, none⟩ = some (.slice A0_0 l0_0.length c0_0) ∧ w'.cell? ⟨gi0, 1, none⟩ = some (.int .i64 a0_1) ∧ w'.cell? ⟨gi0, 2, none⟩ = some (u9000_) ∧ w'.cell? ⟨gi0, 3, none⟩ = some (u9001_) ∧ w'.cell? ⟨gi0, 4, none⟩ = some (.int .i64 a0_4) ∧ w'.cell? ⟨gi0, 5, none⟩ = some (.int .i64 a0_5) ∧ w'.cell? ⟨gi0, 6, none⟩ = some (.bool false)) (ds := []) b4A1 zG101 rfl rfl ⟨(zg BK0.out 0).trans rfl, (zg BK0.out 1).trans rfl, (zg BK0.out 2).trans rfl, (zg BK0.out 3).trans rfl, (zg BK0.out 4).trans rfl, (zg BK0.out 5).trans rfl, (zg BK0.out 6).trans rfl⟩ (fun hHeld => ?_); refine with_tabW spec_l20Search_try.tab0 spec_l20Search_try.bits0 (fun HT_ HW_ => ?_)
  generalize w.drew = w38 at HO0_2 HO0_3 BK0 HK HB hHeld ⊢
  refine pure_ (i := 0) (N := some 10) (v := ?_) (a' := ?_) b4A2 rfl rfl (any_of HT_.out zG101) (fun _ _ _ h => h) (Or.inl ⟨by rfl, ?_⟩) ?_ ?_
  rotate_left
  ·intro w'
   go_simp
   with_reducible rfl
  rotate_left
  ·simp only [Act.put, List.setIfInBounds_toArray, List.set_cons_zero, List.set_cons_succ, i64_w, i32_w]
   rfl
  refine pure_ (i := 1) (N := some 11) (v := ?_) (a' := ?_) b4A3 rfl rfl (any_of HT_.out zG101) (fun _ _ _ h => h) (Or.inl ⟨by rfl, ?_⟩) ?_ ?_
  rotate_left
  ·intro w'
   go_simp
   with_reducible rfl
  rotate_left
  ·simp only [Act.put, List.setIfInBounds_toArray, List.set_cons_zero, List.set_cons_succ, i64_w, i32_w]
   rfl
  refine pure_ (i := 2) (N := some 12) (v := ?_) (a' := ?_) b4A4 rfl rfl (any_of HT_.out zG101) (fun _ _ _ h => h) (Or.inl ⟨by rfl, ?_⟩) ?_ ?_
  rotate_left
  ·intro w'
   go_simp
   with_reducible rfl
  rotate_left
  ·simp only [Act.put, List.setIfInBounds_toArray, List.set_cons_zero, List.set_cons_succ, i64_w, i32_w]
   rfl
  refine pure_ (i := 4) (N := some 14) (v := ?_) (a' := ?_) b4A5 rfl rfl (any_of HT_.out zG101) (fun _ _ _ h => h) (Or.inl ⟨by rfl, ?_⟩) ?_ ?_
  rotate_left
  ·intro w'
   go_simp
   with_reducible rfl
  rotate_left
  ·simp only [Act.put, List.setIfInBounds_toArray, List.set_cons_zero, List.set_cons_succ, i64_w, i32_w]
   rfl
  refine pure_ (i := 5) (N := some 15) (v := ?_) (a' := ?_) b4A6 rfl rfl (any_of HT_.out zG101) (fun _ _ _ h => h) (Or.inl ⟨by rfl, ?_⟩) ?_ ?_
  rotate_left
  ·intro w'
   go_simp
   with_reducible rfl
  rotate_left
  ·simp only [Act.put, List.setIfInBounds_toArray, List.set_cons_zero, List.set_cons_succ, i64_w, i32_w]
   rfl
  refine pure_ (i := 6) (N := some 16) (v := ?_) (a' := ?_) b4A7 rfl rfl (any_of HT_.out zG101) (fun _ _ _ h => h) (Or.inl ⟨by rfl, ?_⟩) ?_ ?_
  rotate_left
  ·intro w'
   go_simp
   with_reducible rfl
  rotate_left
  ·simp only [Act.put, List.setIfInBounds_toArray, List.set_cons_zero, List.set_cons_succ, i64_w, i32_w]
   rfl
  refine pure_ (i := 8) (N := some 18) (v := ?_) (a' := ?_) b4A8 rfl rfl (any_of HT_.out zG101) (fun _ _ _ h => h) (Or.inl ⟨by rfl, ?_⟩) ?_ ?_
  rotate_left
  ·intro w'
   go_simp
   with_reducible rfl
  rotate_left
  ·simp only [Act.put, List.setIfInBounds_toArray, List.set_cons_zero, List.set_cons_succ, i64_w, i32_w]
   rfl
  refine take_ (i := 3) (N := some 13) (v := ?_) (a' := ?_) b4A9 rfl rfl (take_ofW HT_.out HW_.out zG101) (fun _ _ _ h => h) (Or.inl ⟨by rfl, ?_⟩) hHeld ?_ ?_
  rotate_left
  ·rintro w' ⟨s0, s1, s2, s3, s4, s5, s6⟩
   go_simp
   with_reducible rfl
  rotate_left
  ·simp only [Act.put, List.setIfInBounds_toArray, List.set_cons_zero, List.set_cons_succ, i64_w, i32_w]
   rfl
  refine take_ (i := 7) (N := some 17) (v := ?_) (a' := ?_) b4A10 rfl rfl (take_ofW HT_.out HW_.out zG101) (fun _ _ _ h => h) (Or.inl ⟨by rfl, ?_⟩) hHeld ?_ ?_
  rotate_left
  ·rintro w' ⟨s0, s1, s2, s3, s4, s5, s6⟩
   go_simp
   with_reducible rfl
  rotate_left
  ·simp only [Act.put, List.setIfInBounds_toArray, List.set_cons_zero, List.set_cons_succ, i64_w, i32_w]
   rfl
  refine join_ (σ := Value × Value × Nat) 2 b4A0 (fun s_ => [(19, .tuple #[.agg #[s_.1, s_.2.1, .int .i64 t220, .int .i64 t221], .bool true]), (4, .pointer (some ⟨s_.2.2, 0, none⟩)), (9, .tuple #[.agg #[s_.1, s_.2.1, .int .i64 t220, .int .i64 t221], .bool true]), (20, .agg #[s_.1, s_.2.1, .int .i64 t220, .int .i64 t221]), (21, .bool true)]) (fun s_ w' => (w'.cell? ⟨gi0, 0, none⟩ = some (.slice A0_0 l0_0.length c0_0) ∧ w'.cell? ⟨gi0, 1, none⟩ = some (.int .i64 a0_1) ∧ w'.cell? ⟨gi0, 2, none⟩ = some (u9000_) ∧ w'.cell? ⟨gi0, 3, none⟩ = some (u9001_) ∧ w'.cell? ⟨gi0, 4, none⟩ = some (.int .i64 a0_4) ∧ w'.cell? ⟨gi0, 5, none⟩ = some (.int .i64 a0_5) ∧ w'.cell? ⟨gi0, 6, none⟩ = some (.bool false)) ∧ (Kd.R (Kd.int .i64) 3 w' w0.heap.size (fun k_ => ((P0_2_ k_ ∨ P0_3_ k_) ∨ w.heap.size ≤ k_) ∧ some k_ ≠ (u9001_ : Value).ownBlock ∧ some k_ ≠ (s_.1 : Value).ownBlock ∧ some k_ ≠ (s_.2.1 : Value).ownBlock) u9000_ l0_2) ∧ (Kd.R (Kd.int .i64) 3 w' w0.heap.size (fun k_ => ((P0_2_ k_ ∨ P0_3_ k_) ∨ w.heap.size ≤ k_) ∧ some k_ ≠ (u9000_ : Value).ownBlock ∧ some k_ ≠ (s_.1 : Value).ownBlock ∧ some k_ ≠ (s_.2.1 : Value).ownBlock) u9001_ l0_3) ∧ (Kd.R (Kd.int .i64) 3 w' w0.heap.size (fun k_ => ((P0_2_ k_ ∨ P0_3_ k_) ∨ w.heap.size ≤ k_) ∧ some k_ ≠ (u9000_ : Value).ownBlock ∧ some k_ ≠ (u9001_ : Value).ownBlock ∧ some k_ ≠ (s_.2.1 : Value).ownBlock) s_.1 t214) ∧ (Kd.R (Kd.int .i64) 3 w' w0.heap.size (fun k_ => ((P0_2_ k_ ∨ P0_3_ k_) ∨ w.heap.size ≤ k_) ∧ some k_ ≠ (u9000_ : Value).ownBlock ∧ some k_ ≠ (u9001_ : Value).ownBlock ∧ some k_ ≠ (s_.1 : Value).ownBlock) s_.2.1 t217) ∧ (w'.heap[gi0]? = some (.cells #[.slice A0_0 l0_0.length c0_0, .int .i64 a0_1, u9000_, u9001_, .int .i64 a0_4, .int .i64 a0_5, .bool false] 113 (0, 0))) ∧ (w'.heap[s_.2.2]? = some (.cells #[.slice none 0 0, .slice none 0 0, .int .i64 0, .int .i64 0] 28 (0, 0))) ∧ (w.heap.size ≤ s_.2.2) ∧ (w0.heap.size ≤ s_.2.2) ∧ (gi0 ≠ s_.2.2) ∧ (s_.2.2 ≠ gi0) ∧ (Kept w w' (fun k_ => (P0_2_ k_ ∨ P0_3_ k_) ∨ k_ = gi0)) ∧ (Below w0.heap.size w0 w')) ?_ ?_
  rotate_left
  ·intro hCont
   refine two_ (i := 9) (j := 13) (Ni := some 19) (Nj := some 4) b4A11 b4A12 rfl rfl rfl rfl (two_of HT_.out zG101) zG102 zG102 (fun K hK => ?_) (fun K hK => ?_)
   ·skip
    refine goes_ Try.func123 zG101 rfl #[.slice A0_0 l0_0.length c0_0, .int .i64 a0_1, .slice A1 l1.length c1] (by rfl) rfl rfl zG68 ?_
    with_reducible refine (spec_l20Route.calls k _ _ l0_0 a0_1 _ _ l1 t214 t217 t220 t221 true _ ?side1 ?side2 ?side3 ?side4 A3.out).mono ?_
    (case side1 => exact zah HR0_0.out zG65)
    (case side2 => exact HC0_0.out)
    (case side3 => exact zah HR1.out zG65)
    (case side4 => exact HC1.out)
    rintro e w39 ⟨v215, v218, rfl, ho0, ho1, hb⟩
    refine ⟨_, rfl, ?_⟩
    have n0_ := za (zp (zae (zae (zak zG98 hb) (zac ho0)) (zac ho1)) (fun _ h_ => h_.1))
    have n1_ := za (zp (zae (zae (zak zG99 hb) (zac ho0)) (zac ho1)) (fun _ h_ => h_.1))
    have n2_ := za (zag (zad (zad (zal (M := fun k_ => ((P0_2_ k_ ∨ P0_3_ k_) ∨ w.heap.size ≤ k_)) ho0 zG61 (fun k_ h_ => .inr h_)) (zaa zG98)) (zaa zG99)) (zq zG75))
    have n3_ := za (zag (zad (zad (zal (M := fun k_ => ((P0_2_ k_ ∨ P0_3_ k_) ∨ w.heap.size ≤ k_)) ho1 zG61 (fun k_ h_ => .inr h_)) (zaa zG98)) (zaa zG99)) (zq zG75))
    have n4_ := za (zr (g := gi0) (o := .cells #[.slice A0_0 l0_0.length c0_0, .int .i64 a0_1, u9000_, u9001_, .int .i64 a0_4, .int .i64 a0_5, .bool false] 113 (0, 0)) zG91 hb)
    have n5_ := za (Kept.below (S := (fun k_ => (P0_2_ k_ ∨ P0_3_ k_) ∨ k_ = gi0)) zG65 hb)
    have n6_ := za (zu zG75 hb)
    clear HO0_2
    clear HO0_3
    clear BK0
    clear HK
    clear HB
    have HO0_2 := n0_
    have HO0_3 := n1_
    have HO216 := n2_
    have HO219 := n3_
    have BK0 := n4_
    have HK := n5_
    have HB := n6_
    clear n0_ n1_ n2_ n3_ n4_ n5_ n6_
    (try clear hb)
    (try clear hb2)
    (try clear hk)
    (try clear hi)
    (try clear ho0)
    (try clear ho1)
    refine hK.out _ _ ⟨(zg BK0.out 0).trans rfl, (zg BK0.out 1).trans rfl, (zg BK0.out 2).trans rfl, (zg BK0.out 3).trans rfl, (zg BK0.out 4).trans rfl, (zg BK0.out 5).trans rfl, (zg BK0.out 6).trans rfl⟩ (fun hHeld => ?_)
    clear hK K
    refine norm_ (a' := ?_) ?_ ?_
    rotate_left
    ·show Act.put _ (some 19) _ = _
     simp only [Act.put, List.setIfInBounds_toArray, List.set_cons_zero, List.set_cons_succ, i64_w, i32_w]
     rfl
    refine pure_ (i := 10) (N := some 9) (v := ?_) (a' := ?_) b4A13 rfl rfl (any_of HT_.out zG101) (fun _ _ _ h => h) (Or.inl ⟨by rfl, ?_⟩) ?_ ?_
    rotate_left
    ·intro w'
     go_simp
     with_reducible rfl
    rotate_left
    ·simp only [Act.put, List.setIfInBounds_toArray, List.set_cons_zero, List.set_cons_succ, i64_w, i32_w]
     rfl
    refine pure_ (i := 11) (N := some 20) (v := ?_) (a' := ?_) b4A14 rfl rfl (any_of HT_.out zG101) (fun _ _ _ h => h) (Or.inl ⟨by rfl, ?_⟩) ?_ ?_
    rotate_left
    ·intro w'
     go_simp
     with_reducible rfl
    rotate_left
    ·simp only [Act.put, List.setIfInBounds_toArray, List.set_cons_zero, List.set_cons_succ, i64_w, i32_w]
     rfl
    refine pure_ (i := 12) (N := some 21) (v := ?_) (a' := ?_) b4A15 rfl rfl (any_of HT_.out zG101) (fun _ _ _ h => h) (Or.inl ⟨by rfl, ?_⟩) ?_ ?_
    rotate_left
    ·intro w'
     go_simp
     with_reducible rfl
    rotate_left
    ·simp only [Act.put, List.setIfInBounds_toArray, List.set_cons_zero, List.set_cons_succ, i64_w, i32_w]
     rfl
    refine one_ (i := 13) (N := some 4) b4A0 rfl rfl (one_of HT_.out zG101) zG102 (fun K hK => ?_)
    refine box_step ?hg (N := 4) ?hd (cs := #[.slice none 0 0, .slice none 0 0, .int .i64 0, .int .i64 0]) (t := 28) ?hr ?_; (case hd => rfl); (case hg => rfl); (case hr => exact zH99)
    intro gb223 hg w40 hbox hb
    have n0_ := za (zt zG98 hb)
    have n1_ := za (zt zG99 hb)
    have n2_ := za (zt zK211 hb)
    have n3_ := za (zt zK212 hb)
    have n4_ := za (zr (g := gi0) (o := .cells #[.slice A0_0 l0_0.length c0_0, .int .i64 a0_1, u9000_, u9001_, .int .i64 a0_4, .int .i64 a0_5, .bool false] 113 (0, 0)) zG91 hb)
    have n5_ := za (Kept.below (S := (fun k_ => (P0_2_ k_ ∨ P0_3_ k_) ∨ k_ = gi0)) zG65 hb)
    have n6_ := za (zu zG75 hb)
    have n7_ := za (hbox)
    have n8_ := za ((by rw [hg]; exact zG61 : w.heap.size ≤ gb223))
    have n9_ := za ((by rw [hg]; exact (zq zG75) : w0.heap.size ≤ gb223))
    have n10_ := za ((by rw [hg]; exact Nat.ne_of_lt (zx (g := gi0) (o := .cells #[.slice A0_0 l0_0.length c0_0, .int .i64 a0_1, u9000_, u9001_, .int .i64 a0_4, .int .i64 a0_5, .bool false] 113 (0, 0)) zG91) : gi0 ≠ gb223))
    have n11_ := za ((by rw [hg]; exact Nat.ne_of_gt (zx (g := gi0) (o := .cells #[.slice A0_0 l0_0.length c0_0, .int .i64 a0_1, u9000_, u9001_, .int .i64 a0_4, .int .i64 a0_5, .bool false] 113 (0, 0)) zG91) : gb223 ≠ gi0))
    clear HO0_2
    clear HO0_3
    clear HO216
    clear HO219
    clear BK0
    clear HK
    clear HB
    have HO0_2 := n0_
    have HO0_3 := n1_
    have HO216 := n2_
    have HO219 := n3_
    have BK0 := n4_
    have HK := n5_
    have HB := n6_
    have BK223 := n7_
    have GW223 := n8_
    have GE223 := n9_
    have NB0_223 := n10_
    have NB223_0 := n11_
    clear n0_ n1_ n2_ n3_ n4_ n5_ n6_ n7_ n8_ n9_ n10_ n11_
    clear hb hbox hg
    refine hK.out _ _ ⟨(zg BK0.out 0).trans rfl, (zg BK0.out 1).trans rfl, (zg BK0.out 2).trans rfl, (zg BK0.out 3).trans rfl, (zg BK0.out 4).trans rfl, (zg BK0.out 5).trans rfl, (zg BK0.out 6).trans rfl⟩ (fun hHeld => ?_)
    clear hK K
    refine norm_ (a' := ?_) ?_ ?_
    rotate_left
    ·show Act.put _ (some 4) _ = _
     simp only [Act.put, List.setIfInBounds_toArray, List.set_cons_zero, List.set_cons_succ, i64_w, i32_w]
     rfl
    exact norm_ zK191 (hCont (v215, v218, gb223) _ ⟨hHeld, zG69, zG70, zG71, zG72, zG91, zG86, GW223.out, GE223.out, NB0_223.out, NB223_0.out, zG63, zG67⟩)
   ·skip
    refine box_step ?hg (N := 4) ?hd (cs := #[.slice none 0 0, .slice none 0 0, .int .i64 0, .int .i64 0]) (t := 28) ?hr ?_; (case hd => rfl); (case hg => rfl); (case hr => exact zH99)
    intro gb223 hg w39 hbox hb
    have n0_ := za (zt zG98 hb)
    have n1_ := za (zt zG99 hb)
    have n2_ := za (zr (g := gi0) (o := .cells #[.slice A0_0 l0_0.length c0_0, .int .i64 a0_1, u9000_, u9001_, .int .i64 a0_4, .int .i64 a0_5, .bool false] 113 (0, 0)) zG91 hb)
    have n3_ := za (Kept.below (S := (fun k_ => (P0_2_ k_ ∨ P0_3_ k_) ∨ k_ = gi0)) zG65 hb)
    have n4_ := za (zu zG75 hb)
    have n5_ := za (hbox)
    have n6_ := za ((by rw [hg]; exact zG61 : w.heap.size ≤ gb223))
    have n7_ := za ((by rw [hg]; exact (zq zG75) : w0.heap.size ≤ gb223))
    have n8_ := za ((by rw [hg]; exact Nat.ne_of_lt (zx (g := gi0) (o := .cells #[.slice A0_0 l0_0.length c0_0, .int .i64 a0_1, u9000_, u9001_, .int .i64 a0_4, .int .i64 a0_5, .bool false] 113 (0, 0)) zG91) : gi0 ≠ gb223))
    have n9_ := za ((by rw [hg]; exact Nat.ne_of_gt (zx (g := gi0) (o := .cells #[.slice A0_0 l0_0.length c0_0, .int .i64 a0_1, u9000_, u9001_, .int .i64 a0_4, .int .i64 a0_5, .bool false] 113 (0, 0)) zG91) : gb223 ≠ gi0))
    clear HO0_2
    clear HO0_3
    clear BK0
    clear HK
    clear HB
    have HO0_2 := n0_
    have HO0_3 := n1_
    have BK0 := n2_
    have HK := n3_
    have HB := n4_
    have BK223 := n5_
    have GW223 := n6_
    have GE223 := n7_
    have NB0_223 := n8_
    have NB223_0 := n9_
    clear n0_ n1_ n2_ n3_ n4_ n5_ n6_ n7_ n8_ n9_
    clear hb hbox hg
    refine hK.out _ _ ⟨(zg BK0.out 0).trans rfl, (zg BK0.out 1).trans rfl, (zg BK0.out 2).trans rfl, (zg BK0.out 3).trans rfl, (zg BK0.out 4).trans rfl, (zg BK0.out 5).trans rfl, (zg BK0.out 6).trans rfl⟩ (fun hHeld => ?_)
    clear hK K
    refine norm_ (a' := ?_) ?_ ?_
    rotate_left
    ·show Act.put _ (some 4) _ = _
     simp only [Act.put, List.setIfInBounds_toArray, List.set_cons_zero, List.set_cons_succ, i64_w, i32_w]
     rfl
    refine one_ (i := 9) (N := some 19) b4A16 rfl rfl (one_of HT_.out zG101) zG102 (fun K hK => ?_)
    refine goes_ Try.func123 zG101 rfl #[.slice A0_0 l0_0.length c0_0, .int .i64 a0_1, .slice A1 l1.length c1] (by rfl) rfl rfl zG68 ?_
    with_reducible refine (spec_l20Route.calls k _ _ l0_0 a0_1 _ _ l1 t214 t217 t220 t221 true _ ?side1 ?side2 ?side3 ?side4 A3.out).mono ?_
    (case side1 => exact zah HR0_0.out zG63)
    (case side2 => exact HC0_0.out)
    (case side3 => exact zah HR1.out zG63)
    (case side4 => exact HC1.out)
    rintro e w40 ⟨v215, v218, rfl, ho0, ho1, hb⟩
    refine ⟨_, rfl, ?_⟩
    have n0_ := za (zp (zae (zae (zak zG98 hb) (zac ho0)) (zac ho1)) (fun _ h_ => h_.1))
    have n1_ := za (zp (zae (zae (zak zG99 hb) (zac ho0)) (zac ho1)) (fun _ h_ => h_.1))
    have n2_ := za (zag (zad (zad (zal (M := fun k_ => ((P0_2_ k_ ∨ P0_3_ k_) ∨ w.heap.size ≤ k_)) ho0 zG60 (fun k_ h_ => .inr h_)) (zaa zG98)) (zaa zG99)) (zq zG67))
    have n3_ := za (zag (zad (zad (zal (M := fun k_ => ((P0_2_ k_ ∨ P0_3_ k_) ∨ w.heap.size ≤ k_)) ho1 zG60 (fun k_ h_ => .inr h_)) (zaa zG98)) (zaa zG99)) (zq zG67))
    have n4_ := za (zr (g := gi0) (o := .cells #[.slice A0_0 l0_0.length c0_0, .int .i64 a0_1, u9000_, u9001_, .int .i64 a0_4, .int .i64 a0_5, .bool false] 113 (0, 0)) zG91 hb)
    have n5_ := za (zr (g := gb223) (o := .cells #[.slice none 0 0, .slice none 0 0, .int .i64 0, .int .i64 0] 28 (0, 0)) zG86 hb)
    have n6_ := za (Kept.below (S := (fun k_ => (P0_2_ k_ ∨ P0_3_ k_) ∨ k_ = gi0)) zG63 hb)
    have n7_ := za (zu zG67 hb)
    clear HO0_2
    clear HO0_3
    clear BK0
    clear BK223
    clear HK
    clear HB
    have HO0_2 := n0_
    have HO0_3 := n1_
    have HO216 := n2_
    have HO219 := n3_
    have BK0 := n4_
    have BK223 := n5_
    have HK := n6_
    have HB := n7_
    clear n0_ n1_ n2_ n3_ n4_ n5_ n6_ n7_
    (try clear hb)
    (try clear hb2)
    (try clear hk)
    (try clear hi)
    (try clear ho0)
    (try clear ho1)
    refine hK.out _ _ ⟨(zg BK0.out 0).trans rfl, (zg BK0.out 1).trans rfl, (zg BK0.out 2).trans rfl, (zg BK0.out 3).trans rfl, (zg BK0.out 4).trans rfl, (zg BK0.out 5).trans rfl, (zg BK0.out 6).trans rfl⟩ (fun hHeld => ?_)
    clear hK K
    refine norm_ (a' := ?_) ?_ ?_
    rotate_left
    ·show Act.put _ (some 19) _ = _
     simp only [Act.put, List.setIfInBounds_toArray, List.set_cons_zero, List.set_cons_succ, i64_w, i32_w]
     rfl
    refine pure_ (i := 10) (N := some 9) (v := ?_) (a' := ?_) b4A17 rfl rfl (any_of HT_.out zG101) (fun _ _ _ h => h) (Or.inl ⟨by rfl, ?_⟩) ?_ ?_
    rotate_left
    ·intro w'
     go_simp
     with_reducible rfl
    rotate_left
    ·simp only [Act.put, List.setIfInBounds_toArray, List.set_cons_zero, List.set_cons_succ, i64_w, i32_w]
     rfl
    refine pure_ (i := 11) (N := some 20) (v := ?_) (a' := ?_) b4A18 rfl rfl (any_of HT_.out zG101) (fun _ _ _ h => h) (Or.inl ⟨by rfl, ?_⟩) ?_ ?_
    rotate_left
    ·intro w'
     go_simp
     with_reducible rfl
    rotate_left
    ·simp only [Act.put, List.setIfInBounds_toArray, List.set_cons_zero, List.set_cons_succ, i64_w, i32_w]
     rfl
    refine pure_ (i := 12) (N := some 21) (v := ?_) (a' := ?_) b4A0 rfl rfl (any_of HT_.out zG101) (fun _ _ _ h => h) (Or.inl ⟨by rfl, ?_⟩) ?_ ?_
    rotate_left
    ·intro w'
     go_simp
     with_reducible rfl
    rotate_left
    ·simp only [Act.put, List.setIfInBounds_toArray, List.set_cons_zero, List.set_cons_succ, i64_w, i32_w]
     rfl
    exact norm_ zK191 (hCont (v215, v218, gb223) _ ⟨hHeld, zG69, zG70, zG71, zG72, zG91, zG86, GW223.out, GE223.out, NB0_223.out, NB223_0.out, zG63, zG67⟩)
  rintro ⟨v215, v218, gb223⟩ w41 ⟨hS_, h0_, h1_, h2_, h3_, h4_, h5_, h6_, h7_, h8_, h9_, h10_, h11_⟩
  have n0_ : Aside0 (Kd.R (Kd.int .i64) 3 w41 w0.heap.size (fun k_ => ((P0_2_ k_ ∨ P0_3_ k_) ∨ w.heap.size ≤ k_) ∧ some k_ ≠ (u9001_ : Value).ownBlock ∧ some k_ ≠ (v215 : Value).ownBlock ∧ some k_ ≠ (v218 : Value).ownBlock) u9000_ l0_2) := ⟨h0_⟩
  have n1_ : Aside0 (Kd.R (Kd.int .i64) 3 w41 w0.heap.size (fun k_ => ((P0_2_ k_ ∨ P0_3_ k_) ∨ w.heap.size ≤ k_) ∧ some k_ ≠ (u9000_ : Value).ownBlock ∧ some k_ ≠ (v215 : Value).ownBlock ∧ some k_ ≠ (v218 : Value).ownBlock) u9001_ l0_3) := ⟨h1_⟩
  have n2_ : Aside0 (Kd.R (Kd.int .i64) 3 w41 w0.heap.size (fun k_ => ((P0_2_ k_ ∨ P0_3_ k_) ∨ w.heap.size ≤ k_) ∧ some k_ ≠ (u9000_ : Value).ownBlock ∧ some k_ ≠ (u9001_ : Value).ownBlock ∧ some k_ ≠ (v218 : Value).ownBlock) v215 t214) := ⟨h2_⟩
  have n3_ : Aside0 (Kd.R (Kd.int .i64) 3 w41 w0.heap.size (fun k_ => ((P0_2_ k_ ∨ P0_3_ k_) ∨ w.heap.size ≤ k_) ∧ some k_ ≠ (u9000_ : Value).ownBlock ∧ some k_ ≠ (u9001_ : Value).ownBlock ∧ some k_ ≠ (v215 : Value).ownBlock) v218 t217) := ⟨h3_⟩
  have n4_ : Aside0 (w41.heap[gi0]? = some (.cells #[.slice A0_0 l0_0.length c0_0, .int .i64 a0_1, u9000_, u9001_, .int .i64 a0_4, .int .i64 a0_5, .bool false] 113 (0, 0))) := ⟨h4_⟩
  have n5_ : Aside0 (w41.heap[gb223]? = some (.cells #[.slice none 0 0, .slice none 0 0, .int .i64 0, .int .i64 0] 28 (0, 0))) := ⟨h5_⟩
  have n6_ : Aside0 (w.heap.size ≤ gb223) := ⟨h6_⟩
  have n7_ : Aside0 (w0.heap.size ≤ gb223) := ⟨h7_⟩
  have n8_ : Aside0 (gi0 ≠ gb223) := ⟨h8_⟩
  have n9_ : Aside0 (gb223 ≠ gi0) := ⟨h9_⟩
  have n10_ : Aside0 (Kept w w41 (fun k_ => (P0_2_ k_ ∨ P0_3_ k_) ∨ k_ = gi0)) := ⟨h10_⟩
  have n11_ : Aside0 (Below w0.heap.size w0 w41) := ⟨h11_⟩
  clear HO0_2
  clear HO0_3
  clear BK0
  clear HK
  clear HB
  clear h0_ h1_ h2_ h3_ h4_ h5_ h6_ h7_ h8_ h9_ h10_ h11_
  have HO0_2 := n0_
  have HO0_3 := n1_
  have HO216 := n2_
  have HO219 := n3_
  have BK0 := n4_
  have BK223 := n5_
  have GW223 := n6_
  have GE223 := n7_
  have NB0_223 := n8_
  have NB223_0 := n9_
  have HK := n10_
  have HB := n11_
  clear n0_ n1_ n2_ n3_ n4_ n5_ n6_ n7_ n8_ n9_ n10_ n11_
  have hHeld : w41.cell? ⟨gi0, 0, none⟩ = some (.slice A0_0 l0_0.length c0_0) ∧ w41.cell? ⟨gi0, 1, none⟩ = some (.int .i64 a0_1) ∧ w41.cell? ⟨gi0, 2, none⟩ = some (u9000_) ∧ w41.cell? ⟨gi0, 3, none⟩ = some (u9001_) ∧ w41.cell? ⟨gi0, 4, none⟩ = some (.int .i64 a0_4) ∧ w41.cell? ⟨gi0, 5, none⟩ = some (.int .i64 a0_5) ∧ w41.cell? ⟨gi0, 6, none⟩ = some (.bool false) := hS_
  obtain ⟨Ao42, co42, eo42⟩ := zaf HO216.out
  (first | subst eo42 | (injection eo42 with f1_ f2_ f3_; have f4_ := f1_.symm; have f5_ := f3_.symm; clear f1_ f2_ f3_; subst f4_; subst f5_))
  obtain ⟨Ao44, co44, eo44⟩ := zaf HO219.out
  (first | subst eo44 | (injection eo44 with f1_ f2_ f3_; have f4_ := f1_.symm; have f5_ := f3_.symm; clear f1_ f2_ f3_; subst f4_; subst f5_))
  refine norm_ (a' := ?_) ?_ ?_
  rotate_left
  ·simp only [putAll, Act.put, List.setIfInBounds_toArray, List.set_cons_zero, List.set_cons_succ]
   rfl
  refine one_ (i := 14) (N := none) b4A19 rfl rfl (one_of HT_.out zG101) zG102 (fun K hK => ?_)
  have hs43 : w41.cell? ⟨gb223, 0, none⟩ = some (.slice none 0 0) := (zg BK223.out 0).trans rfl
  have hfs43 := zh BK223.out 0
  have hns43_0 := NB0_223.out
  have hms43_0 := NB223_0.out
  have hs45 : w41.cell? ⟨gb223, 1, none⟩ = some (.slice none 0 0) := (zg BK223.out 1).trans rfl
  have hfs45 := zh BK223.out 1
  have hns45_0 := NB0_223.out
  have hms45_0 := NB223_0.out
  have hs46 : w41.cell? ⟨gb223, 2, none⟩ = some (.int .i64 0) := (zg BK223.out 2).trans rfl
  have hfs46 := zh BK223.out 2
  have hns46_0 := NB0_223.out
  have hms46_0 := NB223_0.out
  have hs47 : w41.cell? ⟨gb223, 3, none⟩ = some (.int .i64 0) := (zg BK223.out 3).trans rfl
  have hfs47 := zh BK223.out 3
  have hns47_0 := NB0_223.out
  have hms47_0 := NB223_0.out
  refine skip_ (w1 := ?_) (by rfl) rfl ?_ ?_
  rotate_left
  ·go_simp
   rfl
  refine hK.out _ _ ⟨((cell_far (p := ⟨gb223, _, none⟩) NB0_223.out _).trans (((cell_far (p := ⟨gb223, _, none⟩) NB0_223.out _).trans (((cell_far (p := ⟨gb223, _, none⟩) NB0_223.out _).trans (((cell_far (p := ⟨gb223, _, none⟩) NB0_223.out _).trans (hHeld.1)))))))), ((cell_far (p := ⟨gb223, _, none⟩) NB0_223.out _).trans (((cell_far (p := ⟨gb223, _, none⟩) NB0_223.out _).trans (((cell_far (p := ⟨gb223, _, none⟩) NB0_223.out _).trans (((cell_far (p := ⟨gb223, _, none⟩) NB0_223.out _).trans (hHeld.2.1)))))))), ((cell_far (p := ⟨gb223, _, none⟩) NB0_223.out _).trans (((cell_far (p := ⟨gb223, _, none⟩) NB0_223.out _).trans (((cell_far (p := ⟨gb223, _, none⟩) NB0_223.out _).trans (((cell_far (p := ⟨gb223, _, none⟩) NB0_223.out _).trans (hHeld.2.2.1)))))))), ((cell_far (p := ⟨gb223, _, none⟩) NB0_223.out _).trans (((cell_far (p := ⟨gb223, _, none⟩) NB0_223.out _).trans (((cell_far (p := ⟨gb223, _, none⟩) NB0_223.out _).trans (((cell_far (p := ⟨gb223, _, none⟩) NB0_223.out _).trans (hHeld.2.2.2.1)))))))), ((cell_far (p := ⟨gb223, _, none⟩) NB0_223.out _).trans (((cell_far (p := ⟨gb223, _, none⟩) NB0_223.out _).trans (((cell_far (p := ⟨gb223, _, none⟩) NB0_223.out _).trans (((cell_far (p := ⟨gb223, _, none⟩) NB0_223.out _).trans (hHeld.2.2.2.2.1)))))))), ((cell_far (p := ⟨gb223, _, none⟩) NB0_223.out _).trans (((cell_far (p := ⟨gb223, _, none⟩) NB0_223.out _).trans (((cell_far (p := ⟨gb223, _, none⟩) NB0_223.out _).trans (((cell_far (p := ⟨gb223, _, none⟩) NB0_223.out _).trans (hHeld.2.2.2.2.2.1)))))))), ((cell_far (p := ⟨gb223, _, none⟩) NB0_223.out _).trans (((cell_far (p := ⟨gb223, _, none⟩) NB0_223.out _).trans (((cell_far (p := ⟨gb223, _, none⟩) NB0_223.out _).trans (((cell_far (p := ⟨gb223, _, none⟩) NB0_223.out _).trans (hHeld.2.2.2.2.2.2))))))))⟩ (fun hHeld => ?_)
  clear hK K
  refine pure_ (i := 15) (N := some 5) (v := ?_) (a' := ?_) b4A20 rfl rfl (any_of HT_.out zG101) (fun _ _ _ h => h) (Or.inl ⟨by rfl, ?_⟩) ?_ ?_
  rotate_left
  ·intro w'
   go_simp
   with_reducible rfl
  rotate_left
  ·simp only [Act.put, List.setIfInBounds_toArray, List.set_cons_zero, List.set_cons_succ, i64_w, i32_w]
   rfl
  refine done_ (done_of HT_.out zG101) ?_
  have hnb48 := NB0_223.out
  have hnc48 := NB223_0.out
  have hcz49_0 : w41.cell? ⟨gi0, 0, none⟩ = some (.slice A0_0 l0_0.length c0_0) := (zg BK0.out 0).trans rfl
  have hcz49_1 : w41.cell? ⟨gi0, 1, none⟩ = some (.int .i64 a0_1) := (zg BK0.out 1).trans rfl
  have hcz49_2 : w41.cell? ⟨gi0, 2, none⟩ = some (u9000_) := (zg BK0.out 2).trans rfl
  have hcz49_3 : w41.cell? ⟨gi0, 3, none⟩ = some (u9001_) := (zg BK0.out 3).trans rfl
  have hcz49_4 : w41.cell? ⟨gi0, 4, none⟩ = some (.int .i64 a0_4) := (zg BK0.out 4).trans rfl
  have hcz49_5 : w41.cell? ⟨gi0, 5, none⟩ = some (.int .i64 a0_5) := (zg BK0.out 5).trans rfl
  have hcz49_6 : w41.cell? ⟨gi0, 6, none⟩ = some (.bool false) := (zg BK0.out 6).trans rfl
  have hfz49_0 := zh BK0.out 0
  have hfz49_1 := zh BK0.out 1
  have hfz49_2 := zh BK0.out 2
  have hfz49_3 := zh BK0.out 3
  have hfz49_4 := zh BK0.out 4
  have hfz49_5 := zh BK0.out 5
  have hfz49_6 := zh BK0.out 6
  try go_wp2
  have n0_ : Aside0 (Kd.R (Kd.int .i64) 3 ((((w41.setCell ⟨gb223, 0, none⟩ (.slice Ao42 t214.length co42)).setCell ⟨gb223, 1, none⟩ (.slice Ao44 t217.length co44)).setCell ⟨gb223, 2, none⟩ (.int .i64 t220)).setCell ⟨gb223, 3, none⟩ (.int .i64 t221)) w0.heap.size (fun k_ => ((P0_2_ k_ ∨ P0_3_ k_) ∨ w.heap.size ≤ k_) ∧ some k_ ≠ (u9001_ : Value).ownBlock ∧ some k_ ≠ (.slice Ao42 t214.length co42 : Value).ownBlock ∧ some k_ ≠ (.slice Ao44 t217.length co44 : Value).ownBlock) u9000_ l0_2) := ⟨by (with_reducible repeat (first | apply zk | apply zl | apply zm)); exact zp (zn (p := ⟨gb223, 3, none⟩) (zn (p := ⟨gb223, 2, none⟩) (zn (p := ⟨gb223, 1, none⟩) (zn (p := ⟨gb223, 0, none⟩) (zv HO0_2.out BK223.out zG102) (fun _ hk => hk.2) (.slice Ao42 t214.length co42)) (fun _ hk => hk.2) (.slice Ao44 t217.length co44)) (fun _ hk => hk.2) (.int .i64 t220)) (fun _ hk => hk.2) (.int .i64 t221)) (fun _ hk => ⟨hk.1.1, ⟨hk.1.2.1, ⟨hk.1.2.2.1, hk.1.2.2.2⟩⟩⟩)⟩
  have n1_ : Aside0 (Kd.R (Kd.int .i64) 3 ((((w41.setCell ⟨gb223, 0, none⟩ (.slice Ao42 t214.length co42)).setCell ⟨gb223, 1, none⟩ (.slice Ao44 t217.length co44)).setCell ⟨gb223, 2, none⟩ (.int .i64 t220)).setCell ⟨gb223, 3, none⟩ (.int .i64 t221)) w0.heap.size (fun k_ => ((P0_2_ k_ ∨ P0_3_ k_) ∨ w.heap.size ≤ k_) ∧ some k_ ≠ (u9000_ : Value).ownBlock ∧ some k_ ≠ (.slice Ao42 t214.length co42 : Value).ownBlock ∧ some k_ ≠ (.slice Ao44 t217.length co44 : Value).ownBlock) u9001_ l0_3) := ⟨by (with_reducible repeat (first | apply zk | apply zl | apply zm)); exact zp (zn (p := ⟨gb223, 3, none⟩) (zn (p := ⟨gb223, 2, none⟩) (zn (p := ⟨gb223, 1, none⟩) (zn (p := ⟨gb223, 0, none⟩) (zv HO0_3.out BK223.out zG102) (fun _ hk => hk.2) (.slice Ao42 t214.length co42)) (fun _ hk => hk.2) (.slice Ao44 t217.length co44)) (fun _ hk => hk.2) (.int .i64 t220)) (fun _ hk => hk.2) (.int .i64 t221)) (fun _ hk => ⟨hk.1.1, ⟨hk.1.2.1, ⟨hk.1.2.2.1, hk.1.2.2.2⟩⟩⟩)⟩
  have n2_ : Aside0 (Kd.R (Kd.int .i64) 3 ((((w41.setCell ⟨gb223, 0, none⟩ (.slice Ao42 t214.length co42)).setCell ⟨gb223, 1, none⟩ (.slice Ao44 t217.length co44)).setCell ⟨gb223, 2, none⟩ (.int .i64 t220)).setCell ⟨gb223, 3, none⟩ (.int .i64 t221)) w0.heap.size (fun k_ => ((P0_2_ k_ ∨ P0_3_ k_) ∨ w.heap.size ≤ k_) ∧ some k_ ≠ (u9000_ : Value).ownBlock ∧ some k_ ≠ (u9001_ : Value).ownBlock ∧ some k_ ≠ (.slice Ao44 t217.length co44 : Value).ownBlock) (.slice Ao42 t214.length co42) t214) := ⟨by (with_reducible repeat (first | apply zk | apply zl | apply zm)); exact zp (zn (p := ⟨gb223, 3, none⟩) (zn (p := ⟨gb223, 2, none⟩) (zn (p := ⟨gb223, 1, none⟩) (zn (p := ⟨gb223, 0, none⟩) (zv HO216.out BK223.out zG102) (fun _ hk => hk.2) (.slice Ao42 t214.length co42)) (fun _ hk => hk.2) (.slice Ao44 t217.length co44)) (fun _ hk => hk.2) (.int .i64 t220)) (fun _ hk => hk.2) (.int .i64 t221)) (fun _ hk => ⟨hk.1.1, ⟨hk.1.2.1, ⟨hk.1.2.2.1, hk.1.2.2.2⟩⟩⟩)⟩
  have n3_ : Aside0 (Kd.R (Kd.int .i64) 3 ((((w41.setCell ⟨gb223, 0, none⟩ (.slice Ao42 t214.length co42)).setCell ⟨gb223, 1, none⟩ (.slice Ao44 t217.length co44)).setCell ⟨gb223, 2, none⟩ (.int .i64 t220)).setCell ⟨gb223, 3, none⟩ (.int .i64 t221)) w0.heap.size (fun k_ => ((P0_2_ k_ ∨ P0_3_ k_) ∨ w.heap.size ≤ k_) ∧ some k_ ≠ (u9000_ : Value).ownBlock ∧ some k_ ≠ (u9001_ : Value).ownBlock ∧ some k_ ≠ (.slice Ao42 t214.length co42 : Value).ownBlock) (.slice Ao44 t217.length co44) t217) := ⟨by (with_reducible repeat (first | apply zk | apply zl | apply zm)); exact zp (zn (p := ⟨gb223, 3, none⟩) (zn (p := ⟨gb223, 2, none⟩) (zn (p := ⟨gb223, 1, none⟩) (zn (p := ⟨gb223, 0, none⟩) (zv HO219.out BK223.out zG102) (fun _ hk => hk.2) (.slice Ao42 t214.length co42)) (fun _ hk => hk.2) (.slice Ao44 t217.length co44)) (fun _ hk => hk.2) (.int .i64 t220)) (fun _ hk => hk.2) (.int .i64 t221)) (fun _ hk => ⟨hk.1.1, ⟨hk.1.2.1, ⟨hk.1.2.2.1, hk.1.2.2.2⟩⟩⟩)⟩
  have n4_ : Aside0 (((((w41.setCell ⟨gb223, 0, none⟩ (.slice Ao42 t214.length co42)).setCell ⟨gb223, 1, none⟩ (.slice Ao44 t217.length co44)).setCell ⟨gb223, 2, none⟩ (.int .i64 t220)).setCell ⟨gb223, 3, none⟩ (.int .i64 t221)).heap[gi0]? = some (.cells #[.slice A0_0 l0_0.length c0_0, .int .i64 a0_1, u9000_, u9001_, .int .i64 a0_4, .int .i64 a0_5, .bool false] 113 (0, 0))) := ⟨zH8⟩
  have n5_ : Aside0 (((((w41.setCell ⟨gb223, 0, none⟩ (.slice Ao42 t214.length co42)).setCell ⟨gb223, 1, none⟩ (.slice Ao44 t217.length co44)).setCell ⟨gb223, 2, none⟩ (.int .i64 t220)).setCell ⟨gb223, 3, none⟩ (.int .i64 t221)).heap[gb223]? = some (.cells #[.slice Ao42 t214.length co42, .slice Ao44 t217.length co44, .int .i64 t220, .int .i64 t221] 28 (0, 0))) := ⟨by (with_reducible repeat (first | refine zc ?_ _ | refine zd ?_ | refine zb ?_ _)); refine zw (cs := #[.slice Ao42 t214.length co42, .slice Ao44 t217.length co44, .int .i64 t220, .int .i64 0]) ?_ 3 _ rfl; (with_reducible repeat (first | refine zc ?_ _ | refine zd ?_ | refine zb ?_ _)); refine zw (cs := #[.slice Ao42 t214.length co42, .slice Ao44 t217.length co44, .int .i64 0, .int .i64 0]) ?_ 2 _ rfl; (with_reducible repeat (first | refine zc ?_ _ | refine zd ?_ | refine zb ?_ _)); refine zw (cs := #[.slice Ao42 t214.length co42, .slice none 0 0, .int .i64 0, .int .i64 0]) ?_ 1 _ rfl; (with_reducible repeat (first | refine zc ?_ _ | refine zd ?_ | refine zb ?_ _)); refine zw (cs := #[.slice none 0 0, .slice none 0 0, .int .i64 0, .int .i64 0]) ?_ 0 _ rfl; (with_reducible repeat (first | refine zc ?_ _ | refine zd ?_ | refine zb ?_ _)); exact BK223.out⟩
  have n6_ : Aside0 (Kept w ((((w41.setCell ⟨gb223, 0, none⟩ (.slice Ao42 t214.length co42)).setCell ⟨gb223, 1, none⟩ (.slice Ao44 t217.length co44)).setCell ⟨gb223, 2, none⟩ (.int .i64 t220)).setCell ⟨gb223, 3, none⟩ (.int .i64 t221)) (fun k_ => (P0_2_ k_ ∨ P0_3_ k_) ∨ k_ = gi0)) := ⟨zH29⟩
  have n7_ : Aside0 (Below w0.heap.size w0 ((((w41.setCell ⟨gb223, 0, none⟩ (.slice Ao42 t214.length co42)).setCell ⟨gb223, 1, none⟩ (.slice Ao44 t217.length co44)).setCell ⟨gb223, 2, none⟩ (.int .i64 t220)).setCell ⟨gb223, 3, none⟩ (.int .i64 t221))) := ⟨zH52⟩
  (try clear HO0_2)
  (try clear HO0_3)
  (try clear HO216)
  (try clear HO219)
  (try clear BK0)
  (try clear BK223)
  (try clear HK)
  (try clear HB)
  generalize ((((w41.setCell ⟨gb223, 0, none⟩ (.slice Ao42 t214.length co42)).setCell ⟨gb223, 1, none⟩ (.slice Ao44 t217.length co44)).setCell ⟨gb223, 2, none⟩ (.int .i64 t220)).setCell ⟨gb223, 3, none⟩ (.int .i64 t221)) = w50 at n0_ n1_ n2_ n3_ n4_ n5_ n6_ n7_ ⊢
  have HO0_2 := n0_
  have HO0_3 := n1_
  have HO216 := n2_
  have HO219 := n3_
  have BK0 := n4_
  have BK223 := n5_
  have HK := n6_
  have HB := n7_
  clear n0_ n1_ n2_ n3_ n4_ n5_ n6_ n7_
  have n0_ := za (zm HO0_2.out)
  have n1_ := za (zm HO0_3.out)
  have n2_ := za (zm HO216.out)
  have n3_ := za (zm HO219.out)
  have n4_ := za (zd BK0.out)
  have n5_ := za (zd BK223.out)
  have n6_ := za (Kept.drew HK.out)
  have n7_ := za (zi HB.out)
  clear HO0_2
  clear HO0_3
  clear HO216
  clear HO219
  clear BK0
  clear BK223
  clear HK
  clear HB
  have HO0_2 := n0_
  have HO0_3 := n1_
  have HO216 := n2_
  have HO219 := n3_
  have BK0 := n4_
  have BK223 := n5_
  have HK := n6_
  have HB := n7_
  clear n0_ n1_ n2_ n3_ n4_ n5_ n6_ n7_
  refine start_ (n := 15) (S := fun w' => w'.cell? ⟨gi0, 0, none⟩ = some (.slice A0_0 l0_0.length c0_0) ∧ w'.cell? ⟨gi0, 1, none⟩ = some (.int .i64 a0_1) ∧ w'.cell? ⟨gi0, 2, none⟩ = some (u9000_) ∧ w'.cell? ⟨gi0, 3, none⟩ = some (u9001_) ∧ w'.cell? ⟨gi0, 4, none⟩ = some (.int .i64 a0_4) ∧ w'.cell? ⟨gi0, 5, none⟩ = some (.int .i64 a0_5) ∧ w'.cell? ⟨gi0, 6, none⟩ = some (.bool false)) (ds := []) b4A21 zG101 rfl rfl ⟨(zg BK0.out 0).trans rfl, (zg BK0.out 1).trans rfl, (zg BK0.out 2).trans rfl, (zg BK0.out 3).trans rfl, (zg BK0.out 4).trans rfl, (zg BK0.out 5).trans rfl, (zg BK0.out 6).trans rfl⟩ (fun hHeld => ?_); refine with_tabW spec_l20Search_try.tab3 spec_l20Search_try.bits3 (fun HT_ HW_ => ?_)
  generalize w50.drew = w51 at HO0_2 HO0_3 HO216 HO219 BK0 BK223 HK HB hHeld ⊢
  refine pure_ (i := 0) (N := some 32) (v := ?_) (a' := ?_) b4A22 rfl rfl (any_of HT_.out zG101) (fun _ _ _ h => h) (Or.inl ⟨by rfl, ?_⟩) ?_ ?_
  rotate_left
  ·intro w'
   go_simp
   with_reducible rfl
  rotate_left
  ·simp only [Act.put, List.setIfInBounds_toArray, List.set_cons_zero, List.set_cons_succ, i64_w, i32_w]
   rfl
  refine pure_ (i := 1) (N := some 33) (v := ?_) (a' := ?_) b4A23 rfl rfl (any_of HT_.out zG101) (fun _ _ _ h => h) (Or.inl ⟨by rfl, ?_⟩) ?_ ?_
  rotate_left
  ·intro w'
   go_simp
   with_reducible rfl
  rotate_left
  ·simp only [Act.put, List.setIfInBounds_toArray, List.set_cons_zero, List.set_cons_succ, i64_w, i32_w]
   rfl
  refine pure_ (i := 2) (N := some 34) (v := ?_) (a' := ?_) b4A24 rfl rfl (any_of HT_.out zG101) (fun _ _ _ h => h) (Or.inl ⟨by rfl, ?_⟩) ?_ ?_
  rotate_left
  ·intro w'
   go_simp
   with_reducible rfl
  rotate_left
  ·simp only [Act.put, List.setIfInBounds_toArray, List.set_cons_zero, List.set_cons_succ, i64_w, i32_w]
   rfl
  refine take_ (i := 3) (N := some 35) (v := ?_) (a' := ?_) b4A25 rfl rfl (take_ofW HT_.out HW_.out zG101) (fun _ _ _ h => h) (Or.inl ⟨by rfl, ?_⟩) hHeld ?_ ?_
  rotate_left
  ·rintro w' ⟨s0, s1, s2, s3, s4, s5, s6⟩
   go_simp
   with_reducible rfl
  rotate_left
  ·simp only [Act.put, List.setIfInBounds_toArray, List.set_cons_zero, List.set_cons_succ, i64_w, i32_w]
   rfl
  refine pure_ (i := 4) (N := some 36) (v := ?_) (a' := ?_) b4A26 rfl rfl (any_of HT_.out zG101) (fun _ _ _ h => h) (Or.inl ⟨by rfl, ?_⟩) ?_ ?_
  rotate_left
  ·intro w'
   go_simp
   with_reducible rfl
  rotate_left
  ·simp only [Act.put, List.setIfInBounds_toArray, List.set_cons_zero, List.set_cons_succ, i64_w, i32_w]
   rfl
  refine pure_ (i := 5) (N := some 37) (v := ?_) (a' := ?_) b4A27 rfl rfl (any_of HT_.out zG101) (fun _ _ _ h => h) (Or.inl ⟨by rfl, ?_⟩) ?_ ?_
  rotate_left
  ·intro w'
   go_simp
   with_reducible rfl
  rotate_left
  ·simp only [Act.put, List.setIfInBounds_toArray, List.set_cons_zero, List.set_cons_succ, i64_w, i32_w]
   rfl
  refine pure_ (i := 6) (N := some 38) (v := undef) (a' := ?_) b4A28 rfl rfl (any_of HT_.out zG101) (fun _ _ _ h => h) (Or.inr ⟨by rfl, rfl⟩) ?_ ?_
  rotate_left
  ·simp only [Act.put, List.setIfInBounds_toArray, List.set_cons_zero, List.set_cons_succ, i64_w, i32_w]
   rfl
  refine pure_ (i := 7) (N := some 39) (v := undef) (a' := ?_) #[true, true, true, true, true, true, true, true, false, false, false, false, false, false, false] rfl rfl (any_of HT_.out zG101) (fun _ _ _ h => h) (Or.inr ⟨by rfl, rfl⟩) ?_ ?_
  rotate_left
  ·simp only [Act.put, List.setIfInBounds_toArray, List.set_cons_zero, List.set_cons_succ, i64_w, i32_w]
   rfl
  refine pure_ (i := 8) (N := some 40) (v := undef) (a' := ?_) #[true, true, true, true, true, true, true, true, true, false, false, false, false, false, false] rfl rfl (any_of HT_.out zG101) (fun _ _ _ h => h) (Or.inr ⟨by rfl, rfl⟩) ?_ ?_
  rotate_left
  ·simp only [Act.put, List.setIfInBounds_toArray, List.set_cons_zero, List.set_cons_succ, i64_w, i32_w]
   rfl
  refine pure_ (i := 9) (N := some 41) (v := undef) (a' := ?_) #[true, true, true, true, true, true, true, true, true, true, false, false, false, false, false] rfl rfl (any_of HT_.out zG101) (fun _ _ _ h => h) (Or.inr ⟨by rfl, rfl⟩) ?_ ?_
  rotate_left
  ·simp only [Act.put, List.setIfInBounds_toArray, List.set_cons_zero, List.set_cons_succ, i64_w, i32_w]
   rfl
  refine pure_ (i := 10) (N := some 42) (v := undef) (a' := ?_) #[true, true, true, true, true, true, true, true, true, true, true, false, false, false, false] rfl rfl (any_of HT_.out zG101) (fun _ _ _ h => h) (Or.inr ⟨by rfl, rfl⟩) ?_ ?_
  rotate_left
  ·simp only [Act.put, List.setIfInBounds_toArray, List.set_cons_zero, List.set_cons_succ, i64_w, i32_w]
   rfl
  refine pure_ (i := 11) (N := some 43) (v := undef) (a' := ?_) b4A29 rfl rfl (any_of HT_.out zG101) (fun _ _ _ h => h) (Or.inr ⟨by rfl, rfl⟩) ?_ ?_
  rotate_left
  ·simp only [Act.put, List.setIfInBounds_toArray, List.set_cons_zero, List.set_cons_succ, i64_w, i32_w]
   rfl
  refine pure_ (i := 12) (N := some 44) (v := undef) (a' := ?_) b4A30 rfl rfl (any_of HT_.out zG101) (fun _ _ _ h => h) (Or.inr ⟨by rfl, rfl⟩) ?_ ?_
  rotate_left
  ·simp only [Act.put, List.setIfInBounds_toArray, List.set_cons_zero, List.set_cons_succ, i64_w, i32_w]
   rfl
  refine pure_ (i := 13) (N := some 45) (v := undef) (a' := ?_) b4A31 rfl rfl (any_of HT_.out zG101) (fun _ _ _ h => h) (Or.inr ⟨by rfl, rfl⟩) ?_ ?_
  rotate_left
  ·simp only [Act.put, List.setIfInBounds_toArray, List.set_cons_zero, List.set_cons_succ, i64_w, i32_w]
   rfl
  refine pure_ (i := 14) (N := some 46) (v := ?_) (a' := ?_) b4A32 rfl rfl (any_of HT_.out zG101) (fun _ _ _ h => h) (Or.inl ⟨by rfl, ?_⟩) ?_ ?_
  rotate_left
  ·intro w'
   go_simp
   with_reducible rfl
  rotate_left
  ·simp only [Act.put, List.setIfInBounds_toArray, List.set_cons_zero, List.set_cons_succ, i64_w, i32_w]
   rfl
  refine done_ (done_of HT_.out zG101) ?_
  have hcz52_0 : w51.cell? ⟨gb223, 0, none⟩ = some (.slice Ao42 t214.length co42) := (zg BK223.out 0).trans rfl
  have hcz52_1 : w51.cell? ⟨gb223, 1, none⟩ = some (.slice Ao44 t217.length co44) := (zg BK223.out 1).trans rfl
  have hcz52_2 : w51.cell? ⟨gb223, 2, none⟩ = some (.int .i64 t220) := (zg BK223.out 2).trans rfl
  have hcz52_3 : w51.cell? ⟨gb223, 3, none⟩ = some (.int .i64 t221) := (zg BK223.out 3).trans rfl
  have hfz52_0 := zh BK223.out 0
  have hfz52_1 := zh BK223.out 1
  have hfz52_2 := zh BK223.out 2
  have hfz52_3 := zh BK223.out 3
  have hcz53_0 : w51.cell? ⟨gi0, 0, none⟩ = some (.slice A0_0 l0_0.length c0_0) := (zg BK0.out 0).trans rfl
  have hcz53_1 : w51.cell? ⟨gi0, 1, none⟩ = some (.int .i64 a0_1) := (zg BK0.out 1).trans rfl
  have hcz53_2 : w51.cell? ⟨gi0, 2, none⟩ = some (u9000_) := (zg BK0.out 2).trans rfl
  have hcz53_3 : w51.cell? ⟨gi0, 3, none⟩ = some (u9001_) := (zg BK0.out 3).trans rfl
  have hcz53_4 : w51.cell? ⟨gi0, 4, none⟩ = some (.int .i64 a0_4) := (zg BK0.out 4).trans rfl
  have hcz53_5 : w51.cell? ⟨gi0, 5, none⟩ = some (.int .i64 a0_5) := (zg BK0.out 5).trans rfl
  have hcz53_6 : w51.cell? ⟨gi0, 6, none⟩ = some (.bool false) := (zg BK0.out 6).trans rfl
  have hfz53_0 := zh BK0.out 0
  have hfz53_1 := zh BK0.out 1
  have hfz53_2 := zh BK0.out 2
  have hfz53_3 := zh BK0.out 3
  have hfz53_4 := zh BK0.out 4
  have hfz53_5 := zh BK0.out 5
  have hfz53_6 := zh BK0.out 6
  try go_wp2
  first | go_end0 | ((try simp only [Exit.inBlock, Exit.then]); refine bodyPost_ret (results_none rfl _ _ _) rfl ?_)
  exact ⟨_, _, zH86, by (with_reducible repeat (first | apply zk | apply zl | apply zm)); exact zp (zn (p := ⟨gi0, 6, none⟩) (zn (p := ⟨gi0, 5, none⟩) (zn (p := ⟨gi0, 4, none⟩) (zn (p := ⟨gi0, 3, none⟩) (zn (p := ⟨gi0, 2, none⟩) (zv HO216.out BK0.out zG102) (fun _ hk => hk.2) (.slice Ao42 t214.length co42)) (fun _ hk => hk.2) (.slice Ao44 t217.length co44)) (fun _ hk => hk.2) (.int .i64 t220)) (fun _ hk => hk.2) (.int .i64 t221)) (fun _ hk => hk.2) (.bool true)) (fun _ hk => ⟨hk.1.1, hk.1.2.2.2⟩), by (with_reducible repeat (first | apply zk | apply zl | apply zm)); exact zp (zn (p := ⟨gi0, 6, none⟩) (zn (p := ⟨gi0, 5, none⟩) (zn (p := ⟨gi0, 4, none⟩) (zn (p := ⟨gi0, 3, none⟩) (zn (p := ⟨gi0, 2, none⟩) (zv HO219.out BK0.out zG102) (fun _ hk => hk.2) (.slice Ao42 t214.length co42)) (fun _ hk => hk.2) (.slice Ao44 t217.length co44)) (fun _ hk => hk.2) (.int .i64 t220)) (fun _ hk => hk.2) (.int .i64 t221)) (fun _ hk => hk.2) (.bool true)) (fun _ hk => ⟨hk.1.1, hk.1.2.2.2⟩), (by (with_reducible repeat (first | refine zc ?_ _ | refine zd ?_ | refine zb ?_ _)); refine zw (cs := #[.slice A0_0 l0_0.length c0_0, .int .i64 a0_1, .slice Ao42 t214.length co42, .slice Ao44 t217.length co44, .int .i64 t220, .int .i64 t221, .bool false]) ?_ 6 _ rfl; (with_reducible repeat (first | refine zc ?_ _ | refine zd ?_ | refine zb ?_ _)); refine zw (cs := #[.slice A0_0 l0_0.length c0_0, .int .i64 a0_1, .slice Ao42 t214.length co42, .slice Ao44 t217.length co44, .int .i64 t220, .int .i64 a0_5, .bool false]) ?_ 5 _ rfl; (with_reducible repeat (first | refine zc ?_ _ | refine zd ?_ | refine zb ?_ _)); refine zw (cs := #[.slice A0_0 l0_0.length c0_0, .int .i64 a0_1, .slice Ao42 t214.length co42, .slice Ao44 t217.length co44, .int .i64 a0_4, .int .i64 a0_5, .bool false]) ?_ 4 _ rfl; (with_reducible repeat (first | refine zc ?_ _ | refine zd ?_ | refine zb ?_ _)); refine zw (cs := #[.slice A0_0 l0_0.length c0_0, .int .i64 a0_1, .slice Ao42 t214.length co42, u9001_, .int .i64 a0_4, .int .i64 a0_5, .bool false]) ?_ 3 _ rfl; (with_reducible repeat (first | refine zc ?_ _ | refine zd ?_ | refine zb ?_ _)); refine zw (cs := #[.slice A0_0 l0_0.length c0_0, .int .i64 a0_1, u9000_, u9001_, .int .i64 a0_4, .int .i64 a0_5, .bool false]) ?_ 2 _ rfl; (with_reducible repeat (first | refine zc ?_ _ | refine zd ?_ | refine zb ?_ _)); exact BK0.out), zH52, zH29⟩
 subst c6
 have H1 : (if t221 < a0_5 then (some (t214, t217, t220, t221, true)) else (some (l0_2, l0_3, a0_4, a0_5, true))) = some (r1, r2, r3, r4, r5) := by rw [if_pos rfl] at H; exact H
 clear H
 have H := H1
 clear H1
 by_cases c7 : t221 < a0_5
 rotate_left
 ·rw [if_neg c7] at H
  have c7b0 := decide_eq_false c7
  clear c7
  simp only [Option.some.injEq, Prod.mk.injEq] at H
  obtain ⟨rfl, rfl, rfl, rfl, rfl⟩ := H
  go_enter Try.func69, Try.ntmps69
  try go_wp2
  have n0_ := za (zm HO0_2.out)
  have n1_ := za (zm HO0_3.out)
  have n2_ := za (zd BK0.out)
  have n3_ := za (Kept.drew HK.out)
  have n4_ := za (zi HB.out)
  clear HO0_2
  clear HO0_3
  clear BK0
  clear HK
  clear HB
  have HO0_2 := n0_
  have HO0_3 := n1_
  have BK0 := n2_
  have HK := n3_
  have HB := n4_
  clear n0_ n1_ n2_ n3_ n4_
  refine start_ (n := 16) (S := fun w' => w'.cell? ⟨gi0, 0, none⟩ = some (.slice A0_0 l0_0.length c0_0) ∧ w'.cell? ⟨gi0, 1, none⟩ = some (.int .i64 a0_1) ∧ w'.cell? ⟨gi0, 2, none⟩ = some (u9000_) ∧ w'.cell? ⟨gi0, 3, none⟩ = some (u9001_) ∧ w'.cell? ⟨gi0, 4, none⟩ = some (.int .i64 a0_4) ∧ w'.cell? ⟨gi0, 5, none⟩ = some (.int .i64 a0_5) ∧ w'.cell? ⟨gi0, 6, none⟩ = some (.bool true)) (ds := []) b4A1 zG101 rfl rfl ⟨(zg BK0.out 0).trans rfl, (zg BK0.out 1).trans rfl, (zg BK0.out 2).trans rfl, (zg BK0.out 3).trans rfl, (zg BK0.out 4).trans rfl, (zg BK0.out 5).trans rfl, (zg BK0.out 6).trans rfl⟩ (fun hHeld => ?_); refine with_tabW spec_l20Search_try.tab0 spec_l20Search_try.bits0 (fun HT_ HW_ => ?_)
  generalize w.drew = w24 at HO0_2 HO0_3 BK0 HK HB hHeld ⊢
  refine pure_ (i := 0) (N := some 10) (v := ?_) (a' := ?_) b4A2 rfl rfl (any_of HT_.out zG101) (fun _ _ _ h => h) (Or.inl ⟨by rfl, ?_⟩) ?_ ?_
  rotate_left
  ·intro w'
   go_simp
   with_reducible rfl
  rotate_left
  ·simp only [Act.put, List.setIfInBounds_toArray, List.set_cons_zero, List.set_cons_succ, i64_w, i32_w]
   rfl
  refine pure_ (i := 1) (N := some 11) (v := ?_) (a' := ?_) b4A3 rfl rfl (any_of HT_.out zG101) (fun _ _ _ h => h) (Or.inl ⟨by rfl, ?_⟩) ?_ ?_
  rotate_left
  ·intro w'
   go_simp
   with_reducible rfl
  rotate_left
  ·simp only [Act.put, List.setIfInBounds_toArray, List.set_cons_zero, List.set_cons_succ, i64_w, i32_w]
   rfl
  refine pure_ (i := 2) (N := some 12) (v := ?_) (a' := ?_) b4A4 rfl rfl (any_of HT_.out zG101) (fun _ _ _ h => h) (Or.inl ⟨by rfl, ?_⟩) ?_ ?_
  rotate_left
  ·intro w'
   go_simp
   with_reducible rfl
  rotate_left
  ·simp only [Act.put, List.setIfInBounds_toArray, List.set_cons_zero, List.set_cons_succ, i64_w, i32_w]
   rfl
  refine pure_ (i := 4) (N := some 14) (v := ?_) (a' := ?_) b4A5 rfl rfl (any_of HT_.out zG101) (fun _ _ _ h => h) (Or.inl ⟨by rfl, ?_⟩) ?_ ?_
  rotate_left
  ·intro w'
   go_simp
   with_reducible rfl
  rotate_left
  ·simp only [Act.put, List.setIfInBounds_toArray, List.set_cons_zero, List.set_cons_succ, i64_w, i32_w]
   rfl
  refine pure_ (i := 5) (N := some 15) (v := ?_) (a' := ?_) b4A6 rfl rfl (any_of HT_.out zG101) (fun _ _ _ h => h) (Or.inl ⟨by rfl, ?_⟩) ?_ ?_
  rotate_left
  ·intro w'
   go_simp
   with_reducible rfl
  rotate_left
  ·simp only [Act.put, List.setIfInBounds_toArray, List.set_cons_zero, List.set_cons_succ, i64_w, i32_w]
   rfl
  refine pure_ (i := 6) (N := some 16) (v := ?_) (a' := ?_) b4A7 rfl rfl (any_of HT_.out zG101) (fun _ _ _ h => h) (Or.inl ⟨by rfl, ?_⟩) ?_ ?_
  rotate_left
  ·intro w'
   go_simp
   with_reducible rfl
  rotate_left
  ·simp only [Act.put, List.setIfInBounds_toArray, List.set_cons_zero, List.set_cons_succ, i64_w, i32_w]
   rfl
  refine pure_ (i := 8) (N := some 18) (v := ?_) (a' := ?_) b4A8 rfl rfl (any_of HT_.out zG101) (fun _ _ _ h => h) (Or.inl ⟨by rfl, ?_⟩) ?_ ?_
  rotate_left
  ·intro w'
   go_simp
   with_reducible rfl
  rotate_left
  ·simp only [Act.put, List.setIfInBounds_toArray, List.set_cons_zero, List.set_cons_succ, i64_w, i32_w]
   rfl
  refine take_ (i := 3) (N := some 13) (v := ?_) (a' := ?_) b4A9 rfl rfl (take_ofW HT_.out HW_.out zG101) (fun _ _ _ h => h) (Or.inl ⟨by rfl, ?_⟩) hHeld ?_ ?_
  rotate_left
  ·rintro w' ⟨s0, s1, s2, s3, s4, s5, s6⟩
   go_simp
   with_reducible rfl
  rotate_left
  ·simp only [Act.put, List.setIfInBounds_toArray, List.set_cons_zero, List.set_cons_succ, i64_w, i32_w]
   rfl
  refine take_ (i := 7) (N := some 17) (v := ?_) (a' := ?_) b4A10 rfl rfl (take_ofW HT_.out HW_.out zG101) (fun _ _ _ h => h) (Or.inl ⟨by rfl, ?_⟩) hHeld ?_ ?_
  rotate_left
  ·rintro w' ⟨s0, s1, s2, s3, s4, s5, s6⟩
   go_simp
   with_reducible rfl
  rotate_left
  ·simp only [Act.put, List.setIfInBounds_toArray, List.set_cons_zero, List.set_cons_succ, i64_w, i32_w]
   rfl
  refine join_ (σ := Value × Value × Nat) 2 b4A0 (fun s_ => [(19, .tuple #[.agg #[s_.1, s_.2.1, .int .i64 t220, .int .i64 t221], .bool true]), (4, .pointer (some ⟨s_.2.2, 0, none⟩)), (9, .tuple #[.agg #[s_.1, s_.2.1, .int .i64 t220, .int .i64 t221], .bool true]), (20, .agg #[s_.1, s_.2.1, .int .i64 t220, .int .i64 t221]), (21, .bool true)]) (fun s_ w' => (w'.cell? ⟨gi0, 0, none⟩ = some (.slice A0_0 l0_0.length c0_0) ∧ w'.cell? ⟨gi0, 1, none⟩ = some (.int .i64 a0_1) ∧ w'.cell? ⟨gi0, 2, none⟩ = some (u9000_) ∧ w'.cell? ⟨gi0, 3, none⟩ = some (u9001_) ∧ w'.cell? ⟨gi0, 4, none⟩ = some (.int .i64 a0_4) ∧ w'.cell? ⟨gi0, 5, none⟩ = some (.int .i64 a0_5) ∧ w'.cell? ⟨gi0, 6, none⟩ = some (.bool true)) ∧ (Kd.R (Kd.int .i64) 3 w' w0.heap.size (fun k_ => ((P0_2_ k_ ∨ P0_3_ k_) ∨ w.heap.size ≤ k_) ∧ some k_ ≠ (u9001_ : Value).ownBlock ∧ some k_ ≠ (s_.1 : Value).ownBlock ∧ some k_ ≠ (s_.2.1 : Value).ownBlock) u9000_ l0_2) ∧ (Kd.R (Kd.int .i64) 3 w' w0.heap.size (fun k_ => ((P0_2_ k_ ∨ P0_3_ k_) ∨ w.heap.size ≤ k_) ∧ some k_ ≠ (u9000_ : Value).ownBlock ∧ some k_ ≠ (s_.1 : Value).ownBlock ∧ some k_ ≠ (s_.2.1 : Value).ownBlock) u9001_ l0_3) ∧ (Kd.R (Kd.int .i64) 3 w' w0.heap.size (fun k_ => ((P0_2_ k_ ∨ P0_3_ k_) ∨ w.heap.size ≤ k_) ∧ some k_ ≠ (u9000_ : Value).ownBlock ∧ some k_ ≠ (u9001_ : Value).ownBlock ∧ some k_ ≠ (s_.2.1 : Value).ownBlock) s_.1 t214) ∧ (Kd.R (Kd.int .i64) 3 w' w0.heap.size (fun k_ => ((P0_2_ k_ ∨ P0_3_ k_) ∨ w.heap.size ≤ k_) ∧ some k_ ≠ (u9000_ : Value).ownBlock ∧ some k_ ≠ (u9001_ : Value).ownBlock ∧ some k_ ≠ (s_.1 : Value).ownBlock) s_.2.1 t217) ∧ (w'.heap[gi0]? = some (.cells #[.slice A0_0 l0_0.length c0_0, .int .i64 a0_1, u9000_, u9001_, .int .i64 a0_4, .int .i64 a0_5, .bool true] 113 (0, 0))) ∧ (w'.heap[s_.2.2]? = some (.cells #[.slice none 0 0, .slice none 0 0, .int .i64 0, .int .i64 0] 28 (0, 0))) ∧ (w.heap.size ≤ s_.2.2) ∧ (w0.heap.size ≤ s_.2.2) ∧ (gi0 ≠ s_.2.2) ∧ (s_.2.2 ≠ gi0) ∧ (Kept w w' (fun k_ => (P0_2_ k_ ∨ P0_3_ k_) ∨ k_ = gi0)) ∧ (Below w0.heap.size w0 w')) ?_ ?_
  rotate_left
  ·intro hCont
   refine two_ (i := 9) (j := 13) (Ni := some 19) (Nj := some 4) b4A11 b4A12 rfl rfl rfl rfl (two_of HT_.out zG101) zG102 zG102 (fun K hK => ?_) (fun K hK => ?_)
   ·skip
    refine goes_ Try.func123 zG101 rfl #[.slice A0_0 l0_0.length c0_0, .int .i64 a0_1, .slice A1 l1.length c1] (by rfl) rfl rfl zG68 ?_
    with_reducible refine (spec_l20Route.calls k _ _ l0_0 a0_1 _ _ l1 t214 t217 t220 t221 true _ ?side1 ?side2 ?side3 ?side4 A3.out).mono ?_
    (case side1 => exact zah HR0_0.out zG65)
    (case side2 => exact HC0_0.out)
    (case side3 => exact zah HR1.out zG65)
    (case side4 => exact HC1.out)
    rintro e w25 ⟨v215, v218, rfl, ho0, ho1, hb⟩
    refine ⟨_, rfl, ?_⟩
    have n0_ := za (zp (zae (zae (zak zG98 hb) (zac ho0)) (zac ho1)) (fun _ h_ => h_.1))
    have n1_ := za (zp (zae (zae (zak zG99 hb) (zac ho0)) (zac ho1)) (fun _ h_ => h_.1))
    have n2_ := za (zag (zad (zad (zal (M := fun k_ => ((P0_2_ k_ ∨ P0_3_ k_) ∨ w.heap.size ≤ k_)) ho0 zG61 (fun k_ h_ => .inr h_)) (zaa zG98)) (zaa zG99)) (zq zG75))
    have n3_ := za (zag (zad (zad (zal (M := fun k_ => ((P0_2_ k_ ∨ P0_3_ k_) ∨ w.heap.size ≤ k_)) ho1 zG61 (fun k_ h_ => .inr h_)) (zaa zG98)) (zaa zG99)) (zq zG75))
    have n4_ := za (zr (g := gi0) (o := .cells #[.slice A0_0 l0_0.length c0_0, .int .i64 a0_1, u9000_, u9001_, .int .i64 a0_4, .int .i64 a0_5, .bool true] 113 (0, 0)) zG91 hb)
    have n5_ := za (Kept.below (S := (fun k_ => (P0_2_ k_ ∨ P0_3_ k_) ∨ k_ = gi0)) zG65 hb)
    have n6_ := za (zu zG75 hb)
    clear HO0_2
    clear HO0_3
    clear BK0
    clear HK
    clear HB
    have HO0_2 := n0_
    have HO0_3 := n1_
    have HO216 := n2_
    have HO219 := n3_
    have BK0 := n4_
    have HK := n5_
    have HB := n6_
    clear n0_ n1_ n2_ n3_ n4_ n5_ n6_
    (try clear hb)
    (try clear hb2)
    (try clear hk)
    (try clear hi)
    (try clear ho0)
    (try clear ho1)
    refine hK.out _ _ ⟨(zg BK0.out 0).trans rfl, (zg BK0.out 1).trans rfl, (zg BK0.out 2).trans rfl, (zg BK0.out 3).trans rfl, (zg BK0.out 4).trans rfl, (zg BK0.out 5).trans rfl, (zg BK0.out 6).trans rfl⟩ (fun hHeld => ?_)
    clear hK K
    refine norm_ (a' := ?_) ?_ ?_
    rotate_left
    ·show Act.put _ (some 19) _ = _
     simp only [Act.put, List.setIfInBounds_toArray, List.set_cons_zero, List.set_cons_succ, i64_w, i32_w]
     rfl
    refine pure_ (i := 10) (N := some 9) (v := ?_) (a' := ?_) b4A13 rfl rfl (any_of HT_.out zG101) (fun _ _ _ h => h) (Or.inl ⟨by rfl, ?_⟩) ?_ ?_
    rotate_left
    ·intro w'
     go_simp
     with_reducible rfl
    rotate_left
    ·simp only [Act.put, List.setIfInBounds_toArray, List.set_cons_zero, List.set_cons_succ, i64_w, i32_w]
     rfl
    refine pure_ (i := 11) (N := some 20) (v := ?_) (a' := ?_) b4A14 rfl rfl (any_of HT_.out zG101) (fun _ _ _ h => h) (Or.inl ⟨by rfl, ?_⟩) ?_ ?_
    rotate_left
    ·intro w'
     go_simp
     with_reducible rfl
    rotate_left
    ·simp only [Act.put, List.setIfInBounds_toArray, List.set_cons_zero, List.set_cons_succ, i64_w, i32_w]
     rfl
    refine pure_ (i := 12) (N := some 21) (v := ?_) (a' := ?_) b4A15 rfl rfl (any_of HT_.out zG101) (fun _ _ _ h => h) (Or.inl ⟨by rfl, ?_⟩) ?_ ?_
    rotate_left
    ·intro w'
     go_simp
     with_reducible rfl
    rotate_left
    ·simp only [Act.put, List.setIfInBounds_toArray, List.set_cons_zero, List.set_cons_succ, i64_w, i32_w]
     rfl
    refine one_ (i := 13) (N := some 4) b4A0 rfl rfl (one_of HT_.out zG101) zG102 (fun K hK => ?_)
    refine box_step ?hg (N := 4) ?hd (cs := #[.slice none 0 0, .slice none 0 0, .int .i64 0, .int .i64 0]) (t := 28) ?hr ?_; (case hd => rfl); (case hg => rfl); (case hr => exact zH99)
    intro gb223 hg w26 hbox hb
    have n0_ := za (zt zG98 hb)
    have n1_ := za (zt zG99 hb)
    have n2_ := za (zt zK211 hb)
    have n3_ := za (zt zK212 hb)
    have n4_ := za (zr (g := gi0) (o := .cells #[.slice A0_0 l0_0.length c0_0, .int .i64 a0_1, u9000_, u9001_, .int .i64 a0_4, .int .i64 a0_5, .bool true] 113 (0, 0)) zG91 hb)
    have n5_ := za (Kept.below (S := (fun k_ => (P0_2_ k_ ∨ P0_3_ k_) ∨ k_ = gi0)) zG65 hb)
    have n6_ := za (zu zG75 hb)
    have n7_ := za (hbox)
    have n8_ := za ((by rw [hg]; exact zG61 : w.heap.size ≤ gb223))
    have n9_ := za ((by rw [hg]; exact (zq zG75) : w0.heap.size ≤ gb223))
    have n10_ := za ((by rw [hg]; exact Nat.ne_of_lt (zx (g := gi0) (o := .cells #[.slice A0_0 l0_0.length c0_0, .int .i64 a0_1, u9000_, u9001_, .int .i64 a0_4, .int .i64 a0_5, .bool true] 113 (0, 0)) zG91) : gi0 ≠ gb223))
    have n11_ := za ((by rw [hg]; exact Nat.ne_of_gt (zx (g := gi0) (o := .cells #[.slice A0_0 l0_0.length c0_0, .int .i64 a0_1, u9000_, u9001_, .int .i64 a0_4, .int .i64 a0_5, .bool true] 113 (0, 0)) zG91) : gb223 ≠ gi0))
    clear HO0_2
    clear HO0_3
    clear HO216
    clear HO219
    clear BK0
    clear HK
    clear HB
    have HO0_2 := n0_
    have HO0_3 := n1_
    have HO216 := n2_
    have HO219 := n3_
    have BK0 := n4_
    have HK := n5_
    have HB := n6_
    have BK223 := n7_
    have GW223 := n8_
    have GE223 := n9_
    have NB0_223 := n10_
    have NB223_0 := n11_
    clear n0_ n1_ n2_ n3_ n4_ n5_ n6_ n7_ n8_ n9_ n10_ n11_
    clear hb hbox hg
    refine hK.out _ _ ⟨(zg BK0.out 0).trans rfl, (zg BK0.out 1).trans rfl, (zg BK0.out 2).trans rfl, (zg BK0.out 3).trans rfl, (zg BK0.out 4).trans rfl, (zg BK0.out 5).trans rfl, (zg BK0.out 6).trans rfl⟩ (fun hHeld => ?_)
    clear hK K
    refine norm_ (a' := ?_) ?_ ?_
    rotate_left
    ·show Act.put _ (some 4) _ = _
     simp only [Act.put, List.setIfInBounds_toArray, List.set_cons_zero, List.set_cons_succ, i64_w, i32_w]
     rfl
    exact norm_ zK191 (hCont (v215, v218, gb223) _ ⟨hHeld, zG69, zG70, zG71, zG72, zG91, zG86, GW223.out, GE223.out, NB0_223.out, NB223_0.out, zG63, zG67⟩)
   ·skip
    refine box_step ?hg (N := 4) ?hd (cs := #[.slice none 0 0, .slice none 0 0, .int .i64 0, .int .i64 0]) (t := 28) ?hr ?_; (case hd => rfl); (case hg => rfl); (case hr => exact zH99)
    intro gb223 hg w25 hbox hb
    have n0_ := za (zt zG98 hb)
    have n1_ := za (zt zG99 hb)
    have n2_ := za (zr (g := gi0) (o := .cells #[.slice A0_0 l0_0.length c0_0, .int .i64 a0_1, u9000_, u9001_, .int .i64 a0_4, .int .i64 a0_5, .bool true] 113 (0, 0)) zG91 hb)
    have n3_ := za (Kept.below (S := (fun k_ => (P0_2_ k_ ∨ P0_3_ k_) ∨ k_ = gi0)) zG65 hb)
    have n4_ := za (zu zG75 hb)
    have n5_ := za (hbox)
    have n6_ := za ((by rw [hg]; exact zG61 : w.heap.size ≤ gb223))
    have n7_ := za ((by rw [hg]; exact (zq zG75) : w0.heap.size ≤ gb223))
    have n8_ := za ((by rw [hg]; exact Nat.ne_of_lt (zx (g := gi0) (o := .cells #[.slice A0_0 l0_0.length c0_0, .int .i64 a0_1, u9000_, u9001_, .int .i64 a0_4, .int .i64 a0_5, .bool true] 113 (0, 0)) zG91) : gi0 ≠ gb223))
    have n9_ := za ((by rw [hg]; exact Nat.ne_of_gt (zx (g := gi0) (o := .cells #[.slice A0_0 l0_0.length c0_0, .int .i64 a0_1, u9000_, u9001_, .int .i64 a0_4, .int .i64 a0_5, .bool true] 113 (0, 0)) zG91) : gb223 ≠ gi0))
    clear HO0_2
    clear HO0_3
    clear BK0
    clear HK
    clear HB
    have HO0_2 := n0_
    have HO0_3 := n1_
    have BK0 := n2_
    have HK := n3_
    have HB := n4_
    have BK223 := n5_
    have GW223 := n6_
    have GE223 := n7_
    have NB0_223 := n8_
    have NB223_0 := n9_
    clear n0_ n1_ n2_ n3_ n4_ n5_ n6_ n7_ n8_ n9_
    clear hb hbox hg
    refine hK.out _ _ ⟨(zg BK0.out 0).trans rfl, (zg BK0.out 1).trans rfl, (zg BK0.out 2).trans rfl, (zg BK0.out 3).trans rfl, (zg BK0.out 4).trans rfl, (zg BK0.out 5).trans rfl, (zg BK0.out 6).trans rfl⟩ (fun hHeld => ?_)
    clear hK K
    refine norm_ (a' := ?_) ?_ ?_
    rotate_left
    ·show Act.put _ (some 4) _ = _
     simp only [Act.put, List.setIfInBounds_toArray, List.set_cons_zero, List.set_cons_succ, i64_w, i32_w]
     rfl
    refine one_ (i := 9) (N := some 19) b4A16 rfl rfl (one_of HT_.out zG101) zG102 (fun K hK => ?_)
    refine goes_ Try.func123 zG101 rfl #[.slice A0_0 l0_0.length c0_0, .int .i64 a0_1, .slice A1 l1.length c1] (by rfl) rfl rfl zG68 ?_
    with_reducible refine (spec_l20Route.calls k _ _ l0_0 a0_1 _ _ l1 t214 t217 t220 t221 true _ ?side1 ?side2 ?side3 ?side4 A3.out).mono ?_
    (case side1 => exact zah HR0_0.out zG63)
    (case side2 => exact HC0_0.out)
    (case side3 => exact zah HR1.out zG63)
    (case side4 => exact HC1.out)
    rintro e w26 ⟨v215, v218, rfl, ho0, ho1, hb⟩
    refine ⟨_, rfl, ?_⟩
    have n0_ := za (zp (zae (zae (zak zG98 hb) (zac ho0)) (zac ho1)) (fun _ h_ => h_.1))
    have n1_ := za (zp (zae (zae (zak zG99 hb) (zac ho0)) (zac ho1)) (fun _ h_ => h_.1))
    have n2_ := za (zag (zad (zad (zal (M := fun k_ => ((P0_2_ k_ ∨ P0_3_ k_) ∨ w.heap.size ≤ k_)) ho0 zG60 (fun k_ h_ => .inr h_)) (zaa zG98)) (zaa zG99)) (zq zG67))
    have n3_ := za (zag (zad (zad (zal (M := fun k_ => ((P0_2_ k_ ∨ P0_3_ k_) ∨ w.heap.size ≤ k_)) ho1 zG60 (fun k_ h_ => .inr h_)) (zaa zG98)) (zaa zG99)) (zq zG67))
    have n4_ := za (zr (g := gi0) (o := .cells #[.slice A0_0 l0_0.length c0_0, .int .i64 a0_1, u9000_, u9001_, .int .i64 a0_4, .int .i64 a0_5, .bool true] 113 (0, 0)) zG91 hb)
    have n5_ := za (zr (g := gb223) (o := .cells #[.slice none 0 0, .slice none 0 0, .int .i64 0, .int .i64 0] 28 (0, 0)) zG86 hb)
    have n6_ := za (Kept.below (S := (fun k_ => (P0_2_ k_ ∨ P0_3_ k_) ∨ k_ = gi0)) zG63 hb)
    have n7_ := za (zu zG67 hb)
    clear HO0_2
    clear HO0_3
    clear BK0
    clear BK223
    clear HK
    clear HB
    have HO0_2 := n0_
    have HO0_3 := n1_
    have HO216 := n2_
    have HO219 := n3_
    have BK0 := n4_
    have BK223 := n5_
    have HK := n6_
    have HB := n7_
    clear n0_ n1_ n2_ n3_ n4_ n5_ n6_ n7_
    (try clear hb)
    (try clear hb2)
    (try clear hk)
    (try clear hi)
    (try clear ho0)
    (try clear ho1)
    refine hK.out _ _ ⟨(zg BK0.out 0).trans rfl, (zg BK0.out 1).trans rfl, (zg BK0.out 2).trans rfl, (zg BK0.out 3).trans rfl, (zg BK0.out 4).trans rfl, (zg BK0.out 5).trans rfl, (zg BK0.out 6).trans rfl⟩ (fun hHeld => ?_)
    clear hK K
    refine norm_ (a' := ?_) ?_ ?_
    rotate_left
    ·show Act.put _ (some 19) _ = _
     simp only [Act.put, List.setIfInBounds_toArray, List.set_cons_zero, List.set_cons_succ, i64_w, i32_w]
     rfl
    refine pure_ (i := 10) (N := some 9) (v := ?_) (a' := ?_) b4A17 rfl rfl (any_of HT_.out zG101) (fun _ _ _ h => h) (Or.inl ⟨by rfl, ?_⟩) ?_ ?_
    rotate_left
    ·intro w'
     go_simp
     with_reducible rfl
    rotate_left
    ·simp only [Act.put, List.setIfInBounds_toArray, List.set_cons_zero, List.set_cons_succ, i64_w, i32_w]
     rfl
    refine pure_ (i := 11) (N := some 20) (v := ?_) (a' := ?_) b4A18 rfl rfl (any_of HT_.out zG101) (fun _ _ _ h => h) (Or.inl ⟨by rfl, ?_⟩) ?_ ?_
    rotate_left
    ·intro w'
     go_simp
     with_reducible rfl
    rotate_left
    ·simp only [Act.put, List.setIfInBounds_toArray, List.set_cons_zero, List.set_cons_succ, i64_w, i32_w]
     rfl
    refine pure_ (i := 12) (N := some 21) (v := ?_) (a' := ?_) b4A0 rfl rfl (any_of HT_.out zG101) (fun _ _ _ h => h) (Or.inl ⟨by rfl, ?_⟩) ?_ ?_
    rotate_left
    ·intro w'
     go_simp
     with_reducible rfl
    rotate_left
    ·simp only [Act.put, List.setIfInBounds_toArray, List.set_cons_zero, List.set_cons_succ, i64_w, i32_w]
     rfl
    exact norm_ zK191 (hCont (v215, v218, gb223) _ ⟨hHeld, zG69, zG70, zG71, zG72, zG91, zG86, GW223.out, GE223.out, NB0_223.out, NB223_0.out, zG63, zG67⟩)
  rintro ⟨v215, v218, gb223⟩ w27 ⟨hS_, h0_, h1_, h2_, h3_, h4_, h5_, h6_, h7_, h8_, h9_, h10_, h11_⟩
  have n0_ : Aside0 (Kd.R (Kd.int .i64) 3 w27 w0.heap.size (fun k_ => ((P0_2_ k_ ∨ P0_3_ k_) ∨ w.heap.size ≤ k_) ∧ some k_ ≠ (u9001_ : Value).ownBlock ∧ some k_ ≠ (v215 : Value).ownBlock ∧ some k_ ≠ (v218 : Value).ownBlock) u9000_ l0_2) := ⟨h0_⟩
  have n1_ : Aside0 (Kd.R (Kd.int .i64) 3 w27 w0.heap.size (fun k_ => ((P0_2_ k_ ∨ P0_3_ k_) ∨ w.heap.size ≤ k_) ∧ some k_ ≠ (u9000_ : Value).ownBlock ∧ some k_ ≠ (v215 : Value).ownBlock ∧ some k_ ≠ (v218 : Value).ownBlock) u9001_ l0_3) := ⟨h1_⟩
  have n2_ : Aside0 (Kd.R (Kd.int .i64) 3 w27 w0.heap.size (fun k_ => ((P0_2_ k_ ∨ P0_3_ k_) ∨ w.heap.size ≤ k_) ∧ some k_ ≠ (u9000_ : Value).ownBlock ∧ some k_ ≠ (u9001_ : Value).ownBlock ∧ some k_ ≠ (v218 : Value).ownBlock) v215 t214) := ⟨h2_⟩
  have n3_ : Aside0 (Kd.R (Kd.int .i64) 3 w27 w0.heap.size (fun k_ => ((P0_2_ k_ ∨ P0_3_ k_) ∨ w.heap.size ≤ k_) ∧ some k_ ≠ (u9000_ : Value).ownBlock ∧ some k_ ≠ (u9001_ : Value).ownBlock ∧ some k_ ≠ (v215 : Value).ownBlock) v218 t217) := ⟨h3_⟩
  have n4_ : Aside0 (w27.heap[gi0]? = some (.cells #[.slice A0_0 l0_0.length c0_0, .int .i64 a0_1, u9000_, u9001_, .int .i64 a0_4, .int .i64 a0_5, .bool true] 113 (0, 0))) := ⟨h4_⟩
  have n5_ : Aside0 (w27.heap[gb223]? = some (.cells #[.slice none 0 0, .slice none 0 0, .int .i64 0, .int .i64 0] 28 (0, 0))) := ⟨h5_⟩
  have n6_ : Aside0 (w.heap.size ≤ gb223) := ⟨h6_⟩
  have n7_ : Aside0 (w0.heap.size ≤ gb223) := ⟨h7_⟩
  have n8_ : Aside0 (gi0 ≠ gb223) := ⟨h8_⟩
  have n9_ : Aside0 (gb223 ≠ gi0) := ⟨h9_⟩
  have n10_ : Aside0 (Kept w w27 (fun k_ => (P0_2_ k_ ∨ P0_3_ k_) ∨ k_ = gi0)) := ⟨h10_⟩
  have n11_ : Aside0 (Below w0.heap.size w0 w27) := ⟨h11_⟩
  clear HO0_2
  clear HO0_3
  clear BK0
  clear HK
  clear HB
  clear h0_ h1_ h2_ h3_ h4_ h5_ h6_ h7_ h8_ h9_ h10_ h11_
  have HO0_2 := n0_
  have HO0_3 := n1_
  have HO216 := n2_
  have HO219 := n3_
  have BK0 := n4_
  have BK223 := n5_
  have GW223 := n6_
  have GE223 := n7_
  have NB0_223 := n8_
  have NB223_0 := n9_
  have HK := n10_
  have HB := n11_
  clear n0_ n1_ n2_ n3_ n4_ n5_ n6_ n7_ n8_ n9_ n10_ n11_
  have hHeld : w27.cell? ⟨gi0, 0, none⟩ = some (.slice A0_0 l0_0.length c0_0) ∧ w27.cell? ⟨gi0, 1, none⟩ = some (.int .i64 a0_1) ∧ w27.cell? ⟨gi0, 2, none⟩ = some (u9000_) ∧ w27.cell? ⟨gi0, 3, none⟩ = some (u9001_) ∧ w27.cell? ⟨gi0, 4, none⟩ = some (.int .i64 a0_4) ∧ w27.cell? ⟨gi0, 5, none⟩ = some (.int .i64 a0_5) ∧ w27.cell? ⟨gi0, 6, none⟩ = some (.bool true) := hS_
  obtain ⟨Ao28, co28, eo28⟩ := zaf HO216.out
  (first | subst eo28 | (injection eo28 with f1_ f2_ f3_; have f4_ := f1_.symm; have f5_ := f3_.symm; clear f1_ f2_ f3_; subst f4_; subst f5_))
  obtain ⟨Ao30, co30, eo30⟩ := zaf HO219.out
  (first | subst eo30 | (injection eo30 with f1_ f2_ f3_; have f4_ := f1_.symm; have f5_ := f3_.symm; clear f1_ f2_ f3_; subst f4_; subst f5_))
  refine norm_ (a' := ?_) ?_ ?_
  rotate_left
  ·simp only [putAll, Act.put, List.setIfInBounds_toArray, List.set_cons_zero, List.set_cons_succ]
   rfl
  refine one_ (i := 14) (N := none) b4A19 rfl rfl (one_of HT_.out zG101) zG102 (fun K hK => ?_)
  have hs29 : w27.cell? ⟨gb223, 0, none⟩ = some (.slice none 0 0) := (zg BK223.out 0).trans rfl
  have hfs29 := zh BK223.out 0
  have hns29_0 := NB0_223.out
  have hms29_0 := NB223_0.out
  have hs31 : w27.cell? ⟨gb223, 1, none⟩ = some (.slice none 0 0) := (zg BK223.out 1).trans rfl
  have hfs31 := zh BK223.out 1
  have hns31_0 := NB0_223.out
  have hms31_0 := NB223_0.out
  have hs32 : w27.cell? ⟨gb223, 2, none⟩ = some (.int .i64 0) := (zg BK223.out 2).trans rfl
  have hfs32 := zh BK223.out 2
  have hns32_0 := NB0_223.out
  have hms32_0 := NB223_0.out
  have hs33 : w27.cell? ⟨gb223, 3, none⟩ = some (.int .i64 0) := (zg BK223.out 3).trans rfl
  have hfs33 := zh BK223.out 3
  have hns33_0 := NB0_223.out
  have hms33_0 := NB223_0.out
  refine skip_ (w1 := ?_) (by rfl) rfl ?_ ?_
  rotate_left
  ·go_simp
   rfl
  refine hK.out _ _ ⟨((cell_far (p := ⟨gb223, _, none⟩) NB0_223.out _).trans (((cell_far (p := ⟨gb223, _, none⟩) NB0_223.out _).trans (((cell_far (p := ⟨gb223, _, none⟩) NB0_223.out _).trans (((cell_far (p := ⟨gb223, _, none⟩) NB0_223.out _).trans (hHeld.1)))))))), ((cell_far (p := ⟨gb223, _, none⟩) NB0_223.out _).trans (((cell_far (p := ⟨gb223, _, none⟩) NB0_223.out _).trans (((cell_far (p := ⟨gb223, _, none⟩) NB0_223.out _).trans (((cell_far (p := ⟨gb223, _, none⟩) NB0_223.out _).trans (hHeld.2.1)))))))), ((cell_far (p := ⟨gb223, _, none⟩) NB0_223.out _).trans (((cell_far (p := ⟨gb223, _, none⟩) NB0_223.out _).trans (((cell_far (p := ⟨gb223, _, none⟩) NB0_223.out _).trans (((cell_far (p := ⟨gb223, _, none⟩) NB0_223.out _).trans (hHeld.2.2.1)))))))), ((cell_far (p := ⟨gb223, _, none⟩) NB0_223.out _).trans (((cell_far (p := ⟨gb223, _, none⟩) NB0_223.out _).trans (((cell_far (p := ⟨gb223, _, none⟩) NB0_223.out _).trans (((cell_far (p := ⟨gb223, _, none⟩) NB0_223.out _).trans (hHeld.2.2.2.1)))))))), ((cell_far (p := ⟨gb223, _, none⟩) NB0_223.out _).trans (((cell_far (p := ⟨gb223, _, none⟩) NB0_223.out _).trans (((cell_far (p := ⟨gb223, _, none⟩) NB0_223.out _).trans (((cell_far (p := ⟨gb223, _, none⟩) NB0_223.out _).trans (hHeld.2.2.2.2.1)))))))), ((cell_far (p := ⟨gb223, _, none⟩) NB0_223.out _).trans (((cell_far (p := ⟨gb223, _, none⟩) NB0_223.out _).trans (((cell_far (p := ⟨gb223, _, none⟩) NB0_223.out _).trans (((cell_far (p := ⟨gb223, _, none⟩) NB0_223.out _).trans (hHeld.2.2.2.2.2.1)))))))), ((cell_far (p := ⟨gb223, _, none⟩) NB0_223.out _).trans (((cell_far (p := ⟨gb223, _, none⟩) NB0_223.out _).trans (((cell_far (p := ⟨gb223, _, none⟩) NB0_223.out _).trans (((cell_far (p := ⟨gb223, _, none⟩) NB0_223.out _).trans (hHeld.2.2.2.2.2.2))))))))⟩ (fun hHeld => ?_)
  clear hK K
  refine pure_ (i := 15) (N := some 5) (v := ?_) (a' := ?_) b4A20 rfl rfl (any_of HT_.out zG101) (fun _ _ _ h => h) (Or.inl ⟨by rfl, ?_⟩) ?_ ?_
  rotate_left
  ·intro w'
   go_simp
   with_reducible rfl
  rotate_left
  ·simp only [Act.put, List.setIfInBounds_toArray, List.set_cons_zero, List.set_cons_succ, i64_w, i32_w]
   rfl
  refine done_ (done_of HT_.out zG101) ?_
  have hnb34 := NB0_223.out
  have hnc34 := NB223_0.out
  have hcz35_0 : w27.cell? ⟨gi0, 0, none⟩ = some (.slice A0_0 l0_0.length c0_0) := (zg BK0.out 0).trans rfl
  have hcz35_1 : w27.cell? ⟨gi0, 1, none⟩ = some (.int .i64 a0_1) := (zg BK0.out 1).trans rfl
  have hcz35_2 : w27.cell? ⟨gi0, 2, none⟩ = some (u9000_) := (zg BK0.out 2).trans rfl
  have hcz35_3 : w27.cell? ⟨gi0, 3, none⟩ = some (u9001_) := (zg BK0.out 3).trans rfl
  have hcz35_4 : w27.cell? ⟨gi0, 4, none⟩ = some (.int .i64 a0_4) := (zg BK0.out 4).trans rfl
  have hcz35_5 : w27.cell? ⟨gi0, 5, none⟩ = some (.int .i64 a0_5) := (zg BK0.out 5).trans rfl
  have hcz35_6 : w27.cell? ⟨gi0, 6, none⟩ = some (.bool true) := (zg BK0.out 6).trans rfl
  have hfz35_0 := zh BK0.out 0
  have hfz35_1 := zh BK0.out 1
  have hfz35_2 := zh BK0.out 2
  have hfz35_3 := zh BK0.out 3
  have hfz35_4 := zh BK0.out 4
  have hfz35_5 := zh BK0.out 5
  have hfz35_6 := zh BK0.out 6
  try go_wp2
  have n0_ : Aside0 (Kd.R (Kd.int .i64) 3 ((((w27.setCell ⟨gb223, 0, none⟩ (.slice Ao28 t214.length co28)).setCell ⟨gb223, 1, none⟩ (.slice Ao30 t217.length co30)).setCell ⟨gb223, 2, none⟩ (.int .i64 t220)).setCell ⟨gb223, 3, none⟩ (.int .i64 t221)) w0.heap.size (fun k_ => ((P0_2_ k_ ∨ P0_3_ k_) ∨ w.heap.size ≤ k_) ∧ some k_ ≠ (u9001_ : Value).ownBlock ∧ some k_ ≠ (.slice Ao28 t214.length co28 : Value).ownBlock ∧ some k_ ≠ (.slice Ao30 t217.length co30 : Value).ownBlock) u9000_ l0_2) := ⟨by (with_reducible repeat (first | apply zk | apply zl | apply zm)); exact zp (zn (p := ⟨gb223, 3, none⟩) (zn (p := ⟨gb223, 2, none⟩) (zn (p := ⟨gb223, 1, none⟩) (zn (p := ⟨gb223, 0, none⟩) (zv HO0_2.out BK223.out zG102) (fun _ hk => hk.2) (.slice Ao28 t214.length co28)) (fun _ hk => hk.2) (.slice Ao30 t217.length co30)) (fun _ hk => hk.2) (.int .i64 t220)) (fun _ hk => hk.2) (.int .i64 t221)) (fun _ hk => ⟨hk.1.1, ⟨hk.1.2.1, ⟨hk.1.2.2.1, hk.1.2.2.2⟩⟩⟩)⟩
  have n1_ : Aside0 (Kd.R (Kd.int .i64) 3 ((((w27.setCell ⟨gb223, 0, none⟩ (.slice Ao28 t214.length co28)).setCell ⟨gb223, 1, none⟩ (.slice Ao30 t217.length co30)).setCell ⟨gb223, 2, none⟩ (.int .i64 t220)).setCell ⟨gb223, 3, none⟩ (.int .i64 t221)) w0.heap.size (fun k_ => ((P0_2_ k_ ∨ P0_3_ k_) ∨ w.heap.size ≤ k_) ∧ some k_ ≠ (u9000_ : Value).ownBlock ∧ some k_ ≠ (.slice Ao28 t214.length co28 : Value).ownBlock ∧ some k_ ≠ (.slice Ao30 t217.length co30 : Value).ownBlock) u9001_ l0_3) := ⟨by (with_reducible repeat (first | apply zk | apply zl | apply zm)); exact zp (zn (p := ⟨gb223, 3, none⟩) (zn (p := ⟨gb223, 2, none⟩) (zn (p := ⟨gb223, 1, none⟩) (zn (p := ⟨gb223, 0, none⟩) (zv HO0_3.out BK223.out zG102) (fun _ hk => hk.2) (.slice Ao28 t214.length co28)) (fun _ hk => hk.2) (.slice Ao30 t217.length co30)) (fun _ hk => hk.2) (.int .i64 t220)) (fun _ hk => hk.2) (.int .i64 t221)) (fun _ hk => ⟨hk.1.1, ⟨hk.1.2.1, ⟨hk.1.2.2.1, hk.1.2.2.2⟩⟩⟩)⟩
  have n2_ : Aside0 (Kd.R (Kd.int .i64) 3 ((((w27.setCell ⟨gb223, 0, none⟩ (.slice Ao28 t214.length co28)).setCell ⟨gb223, 1, none⟩ (.slice Ao30 t217.length co30)).setCell ⟨gb223, 2, none⟩ (.int .i64 t220)).setCell ⟨gb223, 3, none⟩ (.int .i64 t221)) w0.heap.size (fun k_ => ((P0_2_ k_ ∨ P0_3_ k_) ∨ w.heap.size ≤ k_) ∧ some k_ ≠ (u9000_ : Value).ownBlock ∧ some k_ ≠ (u9001_ : Value).ownBlock ∧ some k_ ≠ (.slice Ao30 t217.length co30 : Value).ownBlock) (.slice Ao28 t214.length co28) t214) := ⟨by (with_reducible repeat (first | apply zk | apply zl | apply zm)); exact zp (zn (p := ⟨gb223, 3, none⟩) (zn (p := ⟨gb223, 2, none⟩) (zn (p := ⟨gb223, 1, none⟩) (zn (p := ⟨gb223, 0, none⟩) (zv HO216.out BK223.out zG102) (fun _ hk => hk.2) (.slice Ao28 t214.length co28)) (fun _ hk => hk.2) (.slice Ao30 t217.length co30)) (fun _ hk => hk.2) (.int .i64 t220)) (fun _ hk => hk.2) (.int .i64 t221)) (fun _ hk => ⟨hk.1.1, ⟨hk.1.2.1, ⟨hk.1.2.2.1, hk.1.2.2.2⟩⟩⟩)⟩
  have n3_ : Aside0 (Kd.R (Kd.int .i64) 3 ((((w27.setCell ⟨gb223, 0, none⟩ (.slice Ao28 t214.length co28)).setCell ⟨gb223, 1, none⟩ (.slice Ao30 t217.length co30)).setCell ⟨gb223, 2, none⟩ (.int .i64 t220)).setCell ⟨gb223, 3, none⟩ (.int .i64 t221)) w0.heap.size (fun k_ => ((P0_2_ k_ ∨ P0_3_ k_) ∨ w.heap.size ≤ k_) ∧ some k_ ≠ (u9000_ : Value).ownBlock ∧ some k_ ≠ (u9001_ : Value).ownBlock ∧ some k_ ≠ (.slice Ao28 t214.length co28 : Value).ownBlock) (.slice Ao30 t217.length co30) t217) := ⟨by (with_reducible repeat (first | apply zk | apply zl | apply zm)); exact zp (zn (p := ⟨gb223, 3, none⟩) (zn (p := ⟨gb223, 2, none⟩) (zn (p := ⟨gb223, 1, none⟩) (zn (p := ⟨gb223, 0, none⟩) (zv HO219.out BK223.out zG102) (fun _ hk => hk.2) (.slice Ao28 t214.length co28)) (fun _ hk => hk.2) (.slice Ao30 t217.length co30)) (fun _ hk => hk.2) (.int .i64 t220)) (fun _ hk => hk.2) (.int .i64 t221)) (fun _ hk => ⟨hk.1.1, ⟨hk.1.2.1, ⟨hk.1.2.2.1, hk.1.2.2.2⟩⟩⟩)⟩
  have n4_ : Aside0 (((((w27.setCell ⟨gb223, 0, none⟩ (.slice Ao28 t214.length co28)).setCell ⟨gb223, 1, none⟩ (.slice Ao30 t217.length co30)).setCell ⟨gb223, 2, none⟩ (.int .i64 t220)).setCell ⟨gb223, 3, none⟩ (.int .i64 t221)).heap[gi0]? = some (.cells #[.slice A0_0 l0_0.length c0_0, .int .i64 a0_1, u9000_, u9001_, .int .i64 a0_4, .int .i64 a0_5, .bool true] 113 (0, 0))) := ⟨zH8⟩
  have n5_ : Aside0 (((((w27.setCell ⟨gb223, 0, none⟩ (.slice Ao28 t214.length co28)).setCell ⟨gb223, 1, none⟩ (.slice Ao30 t217.length co30)).setCell ⟨gb223, 2, none⟩ (.int .i64 t220)).setCell ⟨gb223, 3, none⟩ (.int .i64 t221)).heap[gb223]? = some (.cells #[.slice Ao28 t214.length co28, .slice Ao30 t217.length co30, .int .i64 t220, .int .i64 t221] 28 (0, 0))) := ⟨by (with_reducible repeat (first | refine zc ?_ _ | refine zd ?_ | refine zb ?_ _)); refine zw (cs := #[.slice Ao28 t214.length co28, .slice Ao30 t217.length co30, .int .i64 t220, .int .i64 0]) ?_ 3 _ rfl; (with_reducible repeat (first | refine zc ?_ _ | refine zd ?_ | refine zb ?_ _)); refine zw (cs := #[.slice Ao28 t214.length co28, .slice Ao30 t217.length co30, .int .i64 0, .int .i64 0]) ?_ 2 _ rfl; (with_reducible repeat (first | refine zc ?_ _ | refine zd ?_ | refine zb ?_ _)); refine zw (cs := #[.slice Ao28 t214.length co28, .slice none 0 0, .int .i64 0, .int .i64 0]) ?_ 1 _ rfl; (with_reducible repeat (first | refine zc ?_ _ | refine zd ?_ | refine zb ?_ _)); refine zw (cs := #[.slice none 0 0, .slice none 0 0, .int .i64 0, .int .i64 0]) ?_ 0 _ rfl; (with_reducible repeat (first | refine zc ?_ _ | refine zd ?_ | refine zb ?_ _)); exact BK223.out⟩
  have n6_ : Aside0 (Kept w ((((w27.setCell ⟨gb223, 0, none⟩ (.slice Ao28 t214.length co28)).setCell ⟨gb223, 1, none⟩ (.slice Ao30 t217.length co30)).setCell ⟨gb223, 2, none⟩ (.int .i64 t220)).setCell ⟨gb223, 3, none⟩ (.int .i64 t221)) (fun k_ => (P0_2_ k_ ∨ P0_3_ k_) ∨ k_ = gi0)) := ⟨zH29⟩
  have n7_ : Aside0 (Below w0.heap.size w0 ((((w27.setCell ⟨gb223, 0, none⟩ (.slice Ao28 t214.length co28)).setCell ⟨gb223, 1, none⟩ (.slice Ao30 t217.length co30)).setCell ⟨gb223, 2, none⟩ (.int .i64 t220)).setCell ⟨gb223, 3, none⟩ (.int .i64 t221))) := ⟨zH52⟩
  (try clear HO0_2)
  (try clear HO0_3)
  (try clear HO216)
  (try clear HO219)
  (try clear BK0)
  (try clear BK223)
  (try clear HK)
  (try clear HB)
  generalize ((((w27.setCell ⟨gb223, 0, none⟩ (.slice Ao28 t214.length co28)).setCell ⟨gb223, 1, none⟩ (.slice Ao30 t217.length co30)).setCell ⟨gb223, 2, none⟩ (.int .i64 t220)).setCell ⟨gb223, 3, none⟩ (.int .i64 t221)) = w36 at n0_ n1_ n2_ n3_ n4_ n5_ n6_ n7_ ⊢
  have HO0_2 := n0_
  have HO0_3 := n1_
  have HO216 := n2_
  have HO219 := n3_
  have BK0 := n4_
  have BK223 := n5_
  have HK := n6_
  have HB := n7_
  clear n0_ n1_ n2_ n3_ n4_ n5_ n6_ n7_
  have n0_ := za (zm HO0_2.out)
  have n1_ := za (zm HO0_3.out)
  have n2_ := za (zm HO216.out)
  have n3_ := za (zm HO219.out)
  have n4_ := za (zd BK0.out)
  have n5_ := za (zd BK223.out)
  have n6_ := za (Kept.drew HK.out)
  have n7_ := za (zi HB.out)
  clear HO0_2
  clear HO0_3
  clear HO216
  clear HO219
  clear BK0
  clear BK223
  clear HK
  clear HB
  have HO0_2 := n0_
  have HO0_3 := n1_
  have HO216 := n2_
  have HO219 := n3_
  have BK0 := n4_
  have BK223 := n5_
  have HK := n6_
  have HB := n7_
  clear n0_ n1_ n2_ n3_ n4_ n5_ n6_ n7_
  refine start_ (n := 15) (S := fun w' => w'.cell? ⟨gi0, 0, none⟩ = some (.slice A0_0 l0_0.length c0_0) ∧ w'.cell? ⟨gi0, 1, none⟩ = some (.int .i64 a0_1) ∧ w'.cell? ⟨gi0, 2, none⟩ = some (u9000_) ∧ w'.cell? ⟨gi0, 3, none⟩ = some (u9001_) ∧ w'.cell? ⟨gi0, 4, none⟩ = some (.int .i64 a0_4) ∧ w'.cell? ⟨gi0, 5, none⟩ = some (.int .i64 a0_5) ∧ w'.cell? ⟨gi0, 6, none⟩ = some (.bool true) ∧ w'.cell? ⟨gb223, 0, none⟩ = some (.slice Ao28 t214.length co28) ∧ w'.cell? ⟨gb223, 1, none⟩ = some (.slice Ao30 t217.length co30) ∧ w'.cell? ⟨gb223, 2, none⟩ = some (.int .i64 t220) ∧ w'.cell? ⟨gb223, 3, none⟩ = some (.int .i64 t221)) (ds := []) b4A21 zG101 rfl rfl ⟨(zg BK0.out 0).trans rfl, (zg BK0.out 1).trans rfl, (zg BK0.out 2).trans rfl, (zg BK0.out 3).trans rfl, (zg BK0.out 4).trans rfl, (zg BK0.out 5).trans rfl, (zg BK0.out 6).trans rfl, (zg BK223.out 0).trans rfl, (zg BK223.out 1).trans rfl, (zg BK223.out 2).trans rfl, (zg BK223.out 3).trans rfl⟩ (fun hHeld => ?_); refine with_tabW spec_l20Search_try.tab3 spec_l20Search_try.bits3 (fun HT_ HW_ => ?_)
  generalize w36.drew = w37 at HO0_2 HO0_3 HO216 HO219 BK0 BK223 HK HB hHeld ⊢
  refine pure_ (i := 0) (N := some 32) (v := ?_) (a' := ?_) b4A22 rfl rfl (any_of HT_.out zG101) (fun _ _ _ h => h) (Or.inl ⟨by rfl, ?_⟩) ?_ ?_
  rotate_left
  ·intro w'
   go_simp
   with_reducible rfl
  rotate_left
  ·simp only [Act.put, List.setIfInBounds_toArray, List.set_cons_zero, List.set_cons_succ, i64_w, i32_w]
   rfl
  refine pure_ (i := 1) (N := some 33) (v := ?_) (a' := ?_) b4A23 rfl rfl (any_of HT_.out zG101) (fun _ _ _ h => h) (Or.inl ⟨by rfl, ?_⟩) ?_ ?_
  rotate_left
  ·intro w'
   go_simp
   with_reducible rfl
  rotate_left
  ·simp only [Act.put, List.setIfInBounds_toArray, List.set_cons_zero, List.set_cons_succ, i64_w, i32_w]
   rfl
  refine pure_ (i := 2) (N := some 34) (v := ?_) (a' := ?_) b4A24 rfl rfl (any_of HT_.out zG101) (fun _ _ _ h => h) (Or.inl ⟨by rfl, ?_⟩) ?_ ?_
  rotate_left
  ·intro w'
   go_simp
   with_reducible rfl
  rotate_left
  ·simp only [Act.put, List.setIfInBounds_toArray, List.set_cons_zero, List.set_cons_succ, i64_w, i32_w]
   rfl
  refine take_ (i := 3) (N := some 35) (v := ?_) (a' := ?_) b4A25 rfl rfl (take_ofW HT_.out HW_.out zG101) (fun _ _ _ h => h) (Or.inl ⟨by rfl, ?_⟩) hHeld ?_ ?_
  rotate_left
  ·rintro w' ⟨s0, s1, s2, s3, s4, s5, s6, s7, s8, s9, s10⟩
   go_simp
   with_reducible rfl
  rotate_left
  ·simp only [Act.put, List.setIfInBounds_toArray, List.set_cons_zero, List.set_cons_succ, i64_w, i32_w]
   rfl
  refine pure_ (i := 4) (N := some 36) (v := ?_) (a' := ?_) b4A26 rfl rfl (any_of HT_.out zG101) (fun _ _ _ h => h) (Or.inl ⟨by rfl, ?_⟩) ?_ ?_
  rotate_left
  ·intro w'
   go_simp
   with_reducible rfl
  rotate_left
  ·simp only [Act.put, List.setIfInBounds_toArray, List.set_cons_zero, List.set_cons_succ, i64_w, i32_w]
   rfl
  refine pure_ (i := 5) (N := some 37) (v := ?_) (a' := ?_) b4A27 rfl rfl (any_of HT_.out zG101) (fun _ _ _ h => h) (Or.inl ⟨by rfl, ?_⟩) ?_ ?_
  rotate_left
  ·intro w'
   go_simp
   with_reducible rfl
  rotate_left
  ·simp only [Act.put, List.setIfInBounds_toArray, List.set_cons_zero, List.set_cons_succ, i64_w, i32_w]
   rfl
  refine pure_ (i := 6) (N := some 38) (v := ?_) (a' := ?_) b4A28 rfl rfl (any_of HT_.out zG101) (fun _ _ _ h => h) (Or.inl ⟨by rfl, ?_⟩) ?_ ?_
  rotate_left
  ·intro w'
   go_simp
   with_reducible rfl
  rotate_left
  ·simp only [Act.put, List.setIfInBounds_toArray, List.set_cons_zero, List.set_cons_succ, i64_w, i32_w]
   rfl
  refine pure_ (i := 8) (N := some 40) (v := ?_) (a' := ?_) b4A33 rfl rfl (any_of HT_.out zG101) (fun _ _ _ h => h) (Or.inl ⟨by rfl, ?_⟩) ?_ ?_
  rotate_left
  ·intro w'
   go_simp
   with_reducible rfl
  rotate_left
  ·simp only [Act.put, List.setIfInBounds_toArray, List.set_cons_zero, List.set_cons_succ, i64_w, i32_w]
   rfl
  refine pure_ (i := 9) (N := some 41) (v := ?_) (a' := ?_) b4A34 rfl rfl (any_of HT_.out zG101) (fun _ _ _ h => h) (Or.inl ⟨by rfl, ?_⟩) ?_ ?_
  rotate_left
  ·intro w'
   go_simp
   with_reducible rfl
  rotate_left
  ·simp only [Act.put, List.setIfInBounds_toArray, List.set_cons_zero, List.set_cons_succ, i64_w, i32_w]
   rfl
  refine pure_ (i := 10) (N := some 42) (v := ?_) (a' := ?_) b4A35 rfl rfl (any_of HT_.out zG101) (fun _ _ _ h => h) (Or.inl ⟨by rfl, ?_⟩) ?_ ?_
  rotate_left
  ·intro w'
   go_simp
   with_reducible rfl
  rotate_left
  ·simp only [Act.put, List.setIfInBounds_toArray, List.set_cons_zero, List.set_cons_succ, i64_w, i32_w]
   rfl
  refine pure_ (i := 11) (N := some 43) (v := ?_) (a' := ?_) b4A36 rfl rfl (any_of HT_.out zG101) (fun _ _ _ h => h) (Or.inl ⟨by rfl, ?_⟩) ?_ ?_
  rotate_left
  ·intro w'
   go_simp
   with_reducible rfl
  rotate_left
  ·simp only [Act.put, List.setIfInBounds_toArray, List.set_cons_zero, List.set_cons_succ, i64_w, i32_w]
   rfl
  refine take_ (i := 7) (N := some 39) (v := ?_) (a' := ?_) b4A29 rfl rfl (take_ofW HT_.out HW_.out zG101) (fun _ _ _ h => h) (Or.inl ⟨by rfl, ?_⟩) hHeld ?_ ?_
  rotate_left
  ·rintro w' ⟨s0, s1, s2, s3, s4, s5, s6, s7, s8, s9, s10⟩
   go_simp
   with_reducible rfl
  rotate_left
  ·simp only [Act.put, List.setIfInBounds_toArray, List.set_cons_zero, List.set_cons_succ, i64_w, i32_w]
   rfl
  refine take_ (i := 12) (N := some 44) (v := ?_) (a' := ?_) b4A30 rfl rfl (take_ofW HT_.out HW_.out zG101) (fun _ _ _ h => h) (Or.inl ⟨by rfl, ?_⟩) hHeld ?_ ?_
  rotate_left
  ·rintro w' ⟨s0, s1, s2, s3, s4, s5, s6, s7, s8, s9, s10⟩
   go_simp
   with_reducible rfl
  rotate_left
  ·simp only [Act.put, List.setIfInBounds_toArray, List.set_cons_zero, List.set_cons_succ, i64_w, i32_w]
   rfl
  refine pure_ (i := 13) (N := some 45) (v := ?_) (a' := ?_) b4A31 rfl rfl (any_of HT_.out zG101) (fun _ _ _ h => h) (Or.inl ⟨by rfl, ?_⟩) ?_ ?_
  rotate_left
  ·intro w'
   go_simp
   with_reducible rfl
  rotate_left
  ·simp only [Act.put, List.setIfInBounds_toArray, List.set_cons_zero, List.set_cons_succ, i64_w, i32_w]
   rfl
  refine pure_ (i := 14) (N := some 46) (v := ?_) (a' := ?_) b4A32 rfl rfl (any_of HT_.out zG101) (fun _ _ _ h => h) (Or.inl ⟨by rfl, ?_⟩) ?_ ?_
  rotate_left
  ·intro w'
   go_simp
   with_reducible rfl
  rotate_left
  ·simp only [Act.put, List.setIfInBounds_toArray, List.set_cons_zero, List.set_cons_succ, i64_w, i32_w]
   rfl
  refine done_ (done_of HT_.out zG101) ?_
  try go_wp2
  first | go_end0 | ((try simp only [Exit.inBlock, Exit.then]); refine bodyPost_ret (results_none rfl _ _ _) rfl ?_)
  exact ⟨_, _, zH86, by (with_reducible repeat (first | apply zk | apply zl | apply zm)); exact zp HO0_2.out (fun _ hk => ⟨hk.1, hk.2.1⟩), by (with_reducible repeat (first | apply zk | apply zl | apply zm)); exact zp HO0_3.out (fun _ hk => ⟨hk.1, hk.2.1⟩), zG91, zH52, zH29⟩
 rw [if_pos c7] at H
 have c7b0 := decide_eq_true c7
 clear c7
 simp only [Option.some.injEq, Prod.mk.injEq] at H
 obtain ⟨rfl, rfl, rfl, rfl, rfl⟩ := H
 go_enter Try.func69, Try.ntmps69
 try go_wp2
 have n0_ := za (zm HO0_2.out)
 have n1_ := za (zm HO0_3.out)
 have n2_ := za (zd BK0.out)
 have n3_ := za (Kept.drew HK.out)
 have n4_ := za (zi HB.out)
 clear HO0_2
 clear HO0_3
 clear BK0
 clear HK
 clear HB
 have HO0_2 := n0_
 have HO0_3 := n1_
 have BK0 := n2_
 have HK := n3_
 have HB := n4_
 clear n0_ n1_ n2_ n3_ n4_
 refine start_ (n := 16) (S := fun w' => w'.cell? ⟨gi0, 0, none⟩ = some (.slice A0_0 l0_0.length c0_0) ∧ w'.cell? ⟨gi0, 1, none⟩ = some (.int .i64 a0_1) ∧ w'.cell? ⟨gi0, 2, none⟩ = some (u9000_) ∧ w'.cell? ⟨gi0, 3, none⟩ = some (u9001_) ∧ w'.cell? ⟨gi0, 4, none⟩ = some (.int .i64 a0_4) ∧ w'.cell? ⟨gi0, 5, none⟩ = some (.int .i64 a0_5) ∧ w'.cell? ⟨gi0, 6, none⟩ = some (.bool true)) (ds := []) b4A1 zG101 rfl rfl ⟨(zg BK0.out 0).trans rfl, (zg BK0.out 1).trans rfl, (zg BK0.out 2).trans rfl, (zg BK0.out 3).trans rfl, (zg BK0.out 4).trans rfl, (zg BK0.out 5).trans rfl, (zg BK0.out 6).trans rfl⟩ (fun hHeld => ?_); refine with_tabW spec_l20Search_try.tab0 spec_l20Search_try.bits0 (fun HT_ HW_ => ?_)
 generalize w.drew = w8 at HO0_2 HO0_3 BK0 HK HB hHeld ⊢
 refine pure_ (i := 0) (N := some 10) (v := ?_) (a' := ?_) b4A2 rfl rfl (any_of HT_.out zG101) (fun _ _ _ h => h) (Or.inl ⟨by rfl, ?_⟩) ?_ ?_
 rotate_left
 ·intro w'
  go_simp
  with_reducible rfl
 rotate_left
 ·simp only [Act.put, List.setIfInBounds_toArray, List.set_cons_zero, List.set_cons_succ, i64_w, i32_w]
  rfl
 refine pure_ (i := 1) (N := some 11) (v := ?_) (a' := ?_) b4A3 rfl rfl (any_of HT_.out zG101) (fun _ _ _ h => h) (Or.inl ⟨by rfl, ?_⟩) ?_ ?_
 rotate_left
 ·intro w'
  go_simp
  with_reducible rfl
 rotate_left
 ·simp only [Act.put, List.setIfInBounds_toArray, List.set_cons_zero, List.set_cons_succ, i64_w, i32_w]
  rfl
 refine pure_ (i := 2) (N := some 12) (v := ?_) (a' := ?_) b4A4 rfl rfl (any_of HT_.out zG101) (fun _ _ _ h => h) (Or.inl ⟨by rfl, ?_⟩) ?_ ?_
 rotate_left
 ·intro w'
  go_simp
  with_reducible rfl
 rotate_left
 ·simp only [Act.put, List.setIfInBounds_toArray, List.set_cons_zero, List.set_cons_succ, i64_w, i32_w]
  rfl
 refine pure_ (i := 4) (N := some 14) (v := ?_) (a' := ?_) b4A5 rfl rfl (any_of HT_.out zG101) (fun _ _ _ h => h) (Or.inl ⟨by rfl, ?_⟩) ?_ ?_
 rotate_left
 ·intro w'
  go_simp
  with_reducible rfl
 rotate_left
 ·simp only [Act.put, List.setIfInBounds_toArray, List.set_cons_zero, List.set_cons_succ, i64_w, i32_w]
  rfl
 refine pure_ (i := 5) (N := some 15) (v := ?_) (a' := ?_) b4A6 rfl rfl (any_of HT_.out zG101) (fun _ _ _ h => h) (Or.inl ⟨by rfl, ?_⟩) ?_ ?_
 rotate_left
 ·intro w'
  go_simp
  with_reducible rfl
 rotate_left
 ·simp only [Act.put, List.setIfInBounds_toArray, List.set_cons_zero, List.set_cons_succ, i64_w, i32_w]
  rfl
 refine pure_ (i := 6) (N := some 16) (v := ?_) (a' := ?_) b4A7 rfl rfl (any_of HT_.out zG101) (fun _ _ _ h => h) (Or.inl ⟨by rfl, ?_⟩) ?_ ?_
 rotate_left
 ·intro w'
  go_simp
  with_reducible rfl
 rotate_left
 ·simp only [Act.put, List.setIfInBounds_toArray, List.set_cons_zero, List.set_cons_succ, i64_w, i32_w]
  rfl
 refine pure_ (i := 8) (N := some 18) (v := ?_) (a' := ?_) b4A8 rfl rfl (any_of HT_.out zG101) (fun _ _ _ h => h) (Or.inl ⟨by rfl, ?_⟩) ?_ ?_
 rotate_left
 ·intro w'
  go_simp
  with_reducible rfl
 rotate_left
 ·simp only [Act.put, List.setIfInBounds_toArray, List.set_cons_zero, List.set_cons_succ, i64_w, i32_w]
  rfl
 refine take_ (i := 3) (N := some 13) (v := ?_) (a' := ?_) b4A9 rfl rfl (take_ofW HT_.out HW_.out zG101) (fun _ _ _ h => h) (Or.inl ⟨by rfl, ?_⟩) hHeld ?_ ?_
 rotate_left
 ·rintro w' ⟨s0, s1, s2, s3, s4, s5, s6⟩
  go_simp
  with_reducible rfl
 rotate_left
 ·simp only [Act.put, List.setIfInBounds_toArray, List.set_cons_zero, List.set_cons_succ, i64_w, i32_w]
  rfl
 refine take_ (i := 7) (N := some 17) (v := ?_) (a' := ?_) b4A10 rfl rfl (take_ofW HT_.out HW_.out zG101) (fun _ _ _ h => h) (Or.inl ⟨by rfl, ?_⟩) hHeld ?_ ?_
 rotate_left
 ·rintro w' ⟨s0, s1, s2, s3, s4, s5, s6⟩
  go_simp
  with_reducible rfl
 rotate_left
 ·simp only [Act.put, List.setIfInBounds_toArray, List.set_cons_zero, List.set_cons_succ, i64_w, i32_w]
  rfl
 refine join_ (σ := Value × Value × Nat) 2 b4A0 (fun s_ => [(19, .tuple #[.agg #[s_.1, s_.2.1, .int .i64 t220, .int .i64 t221], .bool true]), (4, .pointer (some ⟨s_.2.2, 0, none⟩)), (9, .tuple #[.agg #[s_.1, s_.2.1, .int .i64 t220, .int .i64 t221], .bool true]), (20, .agg #[s_.1, s_.2.1, .int .i64 t220, .int .i64 t221]), (21, .bool true)]) (fun s_ w' => (w'.cell? ⟨gi0, 0, none⟩ = some (.slice A0_0 l0_0.length c0_0) ∧ w'.cell? ⟨gi0, 1, none⟩ = some (.int .i64 a0_1) ∧ w'.cell? ⟨gi0, 2, none⟩ = some (u9000_) ∧ w'.cell? ⟨gi0, 3, none⟩ = some (u9001_) ∧ w'.cell? ⟨gi0, 4, none⟩ = some (.int .i64 a0_4) ∧ w'.cell? ⟨gi0, 5, none⟩ = some (.int .i64 a0_5) ∧ w'.cell? ⟨gi0, 6, none⟩ = some (.bool true)) ∧ (Kd.R (Kd.int .i64) 3 w' w0.heap.size (fun k_ => ((P0_2_ k_ ∨ P0_3_ k_) ∨ w.heap.size ≤ k_) ∧ some k_ ≠ (u9001_ : Value).ownBlock ∧ some k_ ≠ (s_.1 : Value).ownBlock ∧ some k_ ≠ (s_.2.1 : Value).ownBlock) u9000_ l0_2) ∧ (Kd.R (Kd.int .i64) 3 w' w0.heap.size (fun k_ => ((P0_2_ k_ ∨ P0_3_ k_) ∨ w.heap.size ≤ k_) ∧ some k_ ≠ (u9000_ : Value).ownBlock ∧ some k_ ≠ (s_.1 : Value).ownBlock ∧ some k_ ≠ (s_.2.1 : Value).ownBlock) u9001_ l0_3) ∧ (Kd.R (Kd.int .i64) 3 w' w0.heap.size (fun k_ => ((P0_2_ k_ ∨ P0_3_ k_) ∨ w.heap.size ≤ k_) ∧ some k_ ≠ (u9000_ : Value).ownBlock ∧ some k_ ≠ (u9001_ : Value).ownBlock ∧ some k_ ≠ (s_.2.1 : Value).ownBlock) s_.1 t214) ∧ (Kd.R (Kd.int .i64) 3 w' w0.heap.size (fun k_ => ((P0_2_ k_ ∨ P0_3_ k_) ∨ w.heap.size ≤ k_) ∧ some k_ ≠ (u9000_ : Value).ownBlock ∧ some k_ ≠ (u9001_ : Value).ownBlock ∧ some k_ ≠ (s_.1 : Value).ownBlock) s_.2.1 t217) ∧ (w'.heap[gi0]? = some (.cells #[.slice A0_0 l0_0.length c0_0, .int .i64 a0_1, u9000_, u9001_, .int .i64 a0_4, .int .i64 a0_5, .bool true] 113 (0, 0))) ∧ (w'.heap[s_.2.2]? = some (.cells #[.slice none 0 0, .slice none 0 0, .int .i64 0, .int .i64 0] 28 (0, 0))) ∧ (w.heap.size ≤ s_.2.2) ∧ (w0.heap.size ≤ s_.2.2) ∧ (gi0 ≠ s_.2.2) ∧ (s_.2.2 ≠ gi0) ∧ (Kept w w' (fun k_ => (P0_2_ k_ ∨ P0_3_ k_) ∨ k_ = gi0)) ∧ (Below w0.heap.size w0 w')) ?_ ?_
 rotate_left
 ·intro hCont
  refine two_ (i := 9) (j := 13) (Ni := some 19) (Nj := some 4) b4A11 b4A12 rfl rfl rfl rfl (two_of HT_.out zG101) zG102 zG102 (fun K hK => ?_) (fun K hK => ?_)
  ·skip
   refine goes_ Try.func123 zG101 rfl #[.slice A0_0 l0_0.length c0_0, .int .i64 a0_1, .slice A1 l1.length c1] (by rfl) rfl rfl zG68 ?_
   with_reducible refine (spec_l20Route.calls k _ _ l0_0 a0_1 _ _ l1 t214 t217 t220 t221 true _ ?side1 ?side2 ?side3 ?side4 A3.out).mono ?_
   (case side1 => exact zah HR0_0.out zG65)
   (case side2 => exact HC0_0.out)
   (case side3 => exact zah HR1.out zG65)
   (case side4 => exact HC1.out)
   rintro e w9 ⟨v215, v218, rfl, ho0, ho1, hb⟩
   refine ⟨_, rfl, ?_⟩
   have n0_ := za (zp (zae (zae (zak zG98 hb) (zac ho0)) (zac ho1)) (fun _ h_ => h_.1))
   have n1_ := za (zp (zae (zae (zak zG99 hb) (zac ho0)) (zac ho1)) (fun _ h_ => h_.1))
   have n2_ := za (zag (zad (zad (zal (M := fun k_ => ((P0_2_ k_ ∨ P0_3_ k_) ∨ w.heap.size ≤ k_)) ho0 zG61 (fun k_ h_ => .inr h_)) (zaa zG98)) (zaa zG99)) (zq zG75))
   have n3_ := za (zag (zad (zad (zal (M := fun k_ => ((P0_2_ k_ ∨ P0_3_ k_) ∨ w.heap.size ≤ k_)) ho1 zG61 (fun k_ h_ => .inr h_)) (zaa zG98)) (zaa zG99)) (zq zG75))
   have n4_ := za (zr (g := gi0) (o := .cells #[.slice A0_0 l0_0.length c0_0, .int .i64 a0_1, u9000_, u9001_, .int .i64 a0_4, .int .i64 a0_5, .bool true] 113 (0, 0)) zG91 hb)
   have n5_ := za (Kept.below (S := (fun k_ => (P0_2_ k_ ∨ P0_3_ k_) ∨ k_ = gi0)) zG65 hb)
   have n6_ := za (zu zG75 hb)
   clear HO0_2
   clear HO0_3
   clear BK0
   clear HK
   clear HB
   have HO0_2 := n0_
   have HO0_3 := n1_
   have HO216 := n2_
   have HO219 := n3_
   have BK0 := n4_
   have HK := n5_
   have HB := n6_
   clear n0_ n1_ n2_ n3_ n4_ n5_ n6_
   (try clear hb)
   (try clear hb2)
   (try clear hk)
   (try clear hi)
   (try clear ho0)
   (try clear ho1)
   refine hK.out _ _ ⟨(zg BK0.out 0).trans rfl, (zg BK0.out 1).trans rfl, (zg BK0.out 2).trans rfl, (zg BK0.out 3).trans rfl, (zg BK0.out 4).trans rfl, (zg BK0.out 5).trans rfl, (zg BK0.out 6).trans rfl⟩ (fun hHeld => ?_)
   clear hK K
   refine norm_ (a' := ?_) ?_ ?_
   rotate_left
   ·show Act.put _ (some 19) _ = _
    simp only [Act.put, List.setIfInBounds_toArray, List.set_cons_zero, List.set_cons_succ, i64_w, i32_w]
    rfl
   refine pure_ (i := 10) (N := some 9) (v := ?_) (a' := ?_) b4A13 rfl rfl (any_of HT_.out zG101) (fun _ _ _ h => h) (Or.inl ⟨by rfl, ?_⟩) ?_ ?_
   rotate_left
   ·intro w'
    go_simp
    with_reducible rfl
   rotate_left
   ·simp only [Act.put, List.setIfInBounds_toArray, List.set_cons_zero, List.set_cons_succ, i64_w, i32_w]
    rfl
   refine pure_ (i := 11) (N := some 20) (v := ?_) (a' := ?_) b4A14 rfl rfl (any_of HT_.out zG101) (fun _ _ _ h => h) (Or.inl ⟨by rfl, ?_⟩) ?_ ?_
   rotate_left
   ·intro w'
    go_simp
    with_reducible rfl
   rotate_left
   ·simp only [Act.put, List.setIfInBounds_toArray, List.set_cons_zero, List.set_cons_succ, i64_w, i32_w]
    rfl
   refine pure_ (i := 12) (N := some 21) (v := ?_) (a' := ?_) b4A15 rfl rfl (any_of HT_.out zG101) (fun _ _ _ h => h) (Or.inl ⟨by rfl, ?_⟩) ?_ ?_
   rotate_left
   ·intro w'
    go_simp
    with_reducible rfl
   rotate_left
   ·simp only [Act.put, List.setIfInBounds_toArray, List.set_cons_zero, List.set_cons_succ, i64_w, i32_w]
    rfl
   refine one_ (i := 13) (N := some 4) b4A0 rfl rfl (one_of HT_.out zG101) zG102 (fun K hK => ?_)
   refine box_step ?hg (N := 4) ?hd (cs := #[.slice none 0 0, .slice none 0 0, .int .i64 0, .int .i64 0]) (t := 28) ?hr ?_; (case hd => rfl); (case hg => rfl); (case hr => exact zH99)
   intro gb223 hg w10 hbox hb
   have n0_ := za (zt zG98 hb)
   have n1_ := za (zt zG99 hb)
   have n2_ := za (zt zK211 hb)
   have n3_ := za (zt zK212 hb)
   have n4_ := za (zr (g := gi0) (o := .cells #[.slice A0_0 l0_0.length c0_0, .int .i64 a0_1, u9000_, u9001_, .int .i64 a0_4, .int .i64 a0_5, .bool true] 113 (0, 0)) zG91 hb)
   have n5_ := za (Kept.below (S := (fun k_ => (P0_2_ k_ ∨ P0_3_ k_) ∨ k_ = gi0)) zG65 hb)
   have n6_ := za (zu zG75 hb)
   have n7_ := za (hbox)
   have n8_ := za ((by rw [hg]; exact zG61 : w.heap.size ≤ gb223))
   have n9_ := za ((by rw [hg]; exact (zq zG75) : w0.heap.size ≤ gb223))
   have n10_ := za ((by rw [hg]; exact Nat.ne_of_lt (zx (g := gi0) (o := .cells #[.slice A0_0 l0_0.length c0_0, .int .i64 a0_1, u9000_, u9001_, .int .i64 a0_4, .int .i64 a0_5, .bool true] 113 (0, 0)) zG91) : gi0 ≠ gb223))
   have n11_ := za ((by rw [hg]; exact Nat.ne_of_gt (zx (g := gi0) (o := .cells #[.slice A0_0 l0_0.length c0_0, .int .i64 a0_1, u9000_, u9001_, .int .i64 a0_4, .int .i64 a0_5, .bool true] 113 (0, 0)) zG91) : gb223 ≠ gi0))
   clear HO0_2
   clear HO0_3
   clear HO216
   clear HO219
   clear BK0
   clear HK
   clear HB
   have HO0_2 := n0_
   have HO0_3 := n1_
   have HO216 := n2_
   have HO219 := n3_
   have BK0 := n4_
   have HK := n5_
   have HB := n6_
   have BK223 := n7_
   have GW223 := n8_
   have GE223 := n9_
   have NB0_223 := n10_
   have NB223_0 := n11_
   clear n0_ n1_ n2_ n3_ n4_ n5_ n6_ n7_ n8_ n9_ n10_ n11_
   clear hb hbox hg
   refine hK.out _ _ ⟨(zg BK0.out 0).trans rfl, (zg BK0.out 1).trans rfl, (zg BK0.out 2).trans rfl, (zg BK0.out 3).trans rfl, (zg BK0.out 4).trans rfl, (zg BK0.out 5).trans rfl, (zg BK0.out 6).trans rfl⟩ (fun hHeld => ?_)
   clear hK K
   refine norm_ (a' := ?_) ?_ ?_
   rotate_left
   ·show Act.put _ (some 4) _ = _
    simp only [Act.put, List.setIfInBounds_toArray, List.set_cons_zero, List.set_cons_succ, i64_w, i32_w]
    rfl
   exact norm_ zK191 (hCont (v215, v218, gb223) _ ⟨hHeld, zG69, zG70, zG71, zG72, zG91, zG86, GW223.out, GE223.out, NB0_223.out, NB223_0.out, zG63, zG67⟩)
  ·skip
   refine box_step ?hg (N := 4) ?hd (cs := #[.slice none 0 0, .slice none 0 0, .int .i64 0, .int .i64 0]) (t := 28) ?hr ?_; (case hd => rfl); (case hg => rfl); (case hr => exact zH99)
   intro gb223 hg w9 hbox hb
   have n0_ := za (zt zG98 hb)
   have n1_ := za (zt zG99 hb)
   have n2_ := za (zr (g := gi0) (o := .cells #[.slice A0_0 l0_0.length c0_0, .int .i64 a0_1, u9000_, u9001_, .int .i64 a0_4, .int .i64 a0_5, .bool true] 113 (0, 0)) zG91 hb)
   have n3_ := za (Kept.below (S := (fun k_ => (P0_2_ k_ ∨ P0_3_ k_) ∨ k_ = gi0)) zG65 hb)
   have n4_ := za (zu zG75 hb)
   have n5_ := za (hbox)
   have n6_ := za ((by rw [hg]; exact zG61 : w.heap.size ≤ gb223))
   have n7_ := za ((by rw [hg]; exact (zq zG75) : w0.heap.size ≤ gb223))
   have n8_ := za ((by rw [hg]; exact Nat.ne_of_lt (zx (g := gi0) (o := .cells #[.slice A0_0 l0_0.length c0_0, .int .i64 a0_1, u9000_, u9001_, .int .i64 a0_4, .int .i64 a0_5, .bool true] 113 (0, 0)) zG91) : gi0 ≠ gb223))
   have n9_ := za ((by rw [hg]; exact Nat.ne_of_gt (zx (g := gi0) (o := .cells #[.slice A0_0 l0_0.length c0_0, .int .i64 a0_1, u9000_, u9001_, .int .i64 a0_4, .int .i64 a0_5, .bool true] 113 (0, 0)) zG91) : gb223 ≠ gi0))
   clear HO0_2
   clear HO0_3
   clear BK0
   clear HK
   clear HB
   have HO0_2 := n0_
   have HO0_3 := n1_
   have BK0 := n2_
   have HK := n3_
   have HB := n4_
   have BK223 := n5_
   have GW223 := n6_
   have GE223 := n7_
   have NB0_223 := n8_
   have NB223_0 := n9_
   clear n0_ n1_ n2_ n3_ n4_ n5_ n6_ n7_ n8_ n9_
   clear hb hbox hg
   refine hK.out _ _ ⟨(zg BK0.out 0).trans rfl, (zg BK0.out 1).trans rfl, (zg BK0.out 2).trans rfl, (zg BK0.out 3).trans rfl, (zg BK0.out 4).trans rfl, (zg BK0.out 5).trans rfl, (zg BK0.out 6).trans rfl⟩ (fun hHeld => ?_)
   clear hK K
   refine norm_ (a' := ?_) ?_ ?_
   rotate_left
   ·show Act.put _ (some 4) _ = _
    simp only [Act.put, List.setIfInBounds_toArray, List.set_cons_zero, List.set_cons_succ, i64_w, i32_w]
    rfl
   refine one_ (i := 9) (N := some 19) b4A16 rfl rfl (one_of HT_.out zG101) zG102 (fun K hK => ?_)
   refine goes_ Try.func123 zG101 rfl #[.slice A0_0 l0_0.length c0_0, .int .i64 a0_1, .slice A1 l1.length c1] (by rfl) rfl rfl zG68 ?_
   with_reducible refine (spec_l20Route.calls k _ _ l0_0 a0_1 _ _ l1 t214 t217 t220 t221 true _ ?side1 ?side2 ?side3 ?side4 A3.out).mono ?_
   (case side1 => exact zah HR0_0.out zG63)
   (case side2 => exact HC0_0.out)
   (case side3 => exact zah HR1.out zG63)
   (case side4 => exact HC1.out)
   rintro e w10 ⟨v215, v218, rfl, ho0, ho1, hb⟩
   refine ⟨_, rfl, ?_⟩
   have n0_ := za (zp (zae (zae (zak zG98 hb) (zac ho0)) (zac ho1)) (fun _ h_ => h_.1))
   have n1_ := za (zp (zae (zae (zak zG99 hb) (zac ho0)) (zac ho1)) (fun _ h_ => h_.1))
   have n2_ := za (zag (zad (zad (zal (M := fun k_ => ((P0_2_ k_ ∨ P0_3_ k_) ∨ w.heap.size ≤ k_)) ho0 zG60 (fun k_ h_ => .inr h_)) (zaa zG98)) (zaa zG99)) (zq zG67))
   have n3_ := za (zag (zad (zad (zal (M := fun k_ => ((P0_2_ k_ ∨ P0_3_ k_) ∨ w.heap.size ≤ k_)) ho1 zG60 (fun k_ h_ => .inr h_)) (zaa zG98)) (zaa zG99)) (zq zG67))
   have n4_ := za (zr (g := gi0) (o := .cells #[.slice A0_0 l0_0.length c0_0, .int .i64 a0_1, u9000_, u9001_, .int .i64 a0_4, .int .i64 a0_5, .bool true] 113 (0, 0)) zG91 hb)
   have n5_ := za (zr (g := gb223) (o := .cells #[.slice none 0 0, .slice none 0 0, .int .i64 0, .int .i64 0] 28 (0, 0)) zG86 hb)
   have n6_ := za (Kept.below (S := (fun k_ => (P0_2_ k_ ∨ P0_3_ k_) ∨ k_ = gi0)) zG63 hb)
   have n7_ := za (zu zG67 hb)
   clear HO0_2
   clear HO0_3
   clear BK0
   clear BK223
   clear HK
   clear HB
   have HO0_2 := n0_
   have HO0_3 := n1_
   have HO216 := n2_
   have HO219 := n3_
   have BK0 := n4_
   have BK223 := n5_
   have HK := n6_
   have HB := n7_
   clear n0_ n1_ n2_ n3_ n4_ n5_ n6_ n7_
   (try clear hb)
   (try clear hb2)
   (try clear hk)
   (try clear hi)
   (try clear ho0)
   (try clear ho1)
   refine hK.out _ _ ⟨(zg BK0.out 0).trans rfl, (zg BK0.out 1).trans rfl, (zg BK0.out 2).trans rfl, (zg BK0.out 3).trans rfl, (zg BK0.out 4).trans rfl, (zg BK0.out 5).trans rfl, (zg BK0.out 6).trans rfl⟩ (fun hHeld => ?_)
   clear hK K
   refine norm_ (a' := ?_) ?_ ?_
   rotate_left
   ·show Act.put _ (some 19) _ = _
    simp only [Act.put, List.setIfInBounds_toArray, List.set_cons_zero, List.set_cons_succ, i64_w, i32_w]
    rfl
   refine pure_ (i := 10) (N := some 9) (v := ?_) (a' := ?_) b4A17 rfl rfl (any_of HT_.out zG101) (fun _ _ _ h => h) (Or.inl ⟨by rfl, ?_⟩) ?_ ?_
   rotate_left
   ·intro w'
    go_simp
    with_reducible rfl
   rotate_left
   ·simp only [Act.put, List.setIfInBounds_toArray, List.set_cons_zero, List.set_cons_succ, i64_w, i32_w]
    rfl
   refine pure_ (i := 11) (N := some 20) (v := ?_) (a' := ?_) b4A18 rfl rfl (any_of HT_.out zG101) (fun _ _ _ h => h) (Or.inl ⟨by rfl, ?_⟩) ?_ ?_
   rotate_left
   ·intro w'
    go_simp
    with_reducible rfl
   rotate_left
   ·simp only [Act.put, List.setIfInBounds_toArray, List.set_cons_zero, List.set_cons_succ, i64_w, i32_w]
    rfl
   refine pure_ (i := 12) (N := some 21) (v := ?_) (a' := ?_) b4A0 rfl rfl (any_of HT_.out zG101) (fun _ _ _ h => h) (Or.inl ⟨by rfl, ?_⟩) ?_ ?_
   rotate_left
   ·intro w'
    go_simp
    with_reducible rfl
   rotate_left
   ·simp only [Act.put, List.setIfInBounds_toArray, List.set_cons_zero, List.set_cons_succ, i64_w, i32_w]
    rfl
   exact norm_ zK191 (hCont (v215, v218, gb223) _ ⟨hHeld, zG69, zG70, zG71, zG72, zG91, zG86, GW223.out, GE223.out, NB0_223.out, NB223_0.out, zG63, zG67⟩)
 rintro ⟨v215, v218, gb223⟩ w11 ⟨hS_, h0_, h1_, h2_, h3_, h4_, h5_, h6_, h7_, h8_, h9_, h10_, h11_⟩
 have n0_ : Aside0 (Kd.R (Kd.int .i64) 3 w11 w0.heap.size (fun k_ => ((P0_2_ k_ ∨ P0_3_ k_) ∨ w.heap.size ≤ k_) ∧ some k_ ≠ (u9001_ : Value).ownBlock ∧ some k_ ≠ (v215 : Value).ownBlock ∧ some k_ ≠ (v218 : Value).ownBlock) u9000_ l0_2) := ⟨h0_⟩
 have n1_ : Aside0 (Kd.R (Kd.int .i64) 3 w11 w0.heap.size (fun k_ => ((P0_2_ k_ ∨ P0_3_ k_) ∨ w.heap.size ≤ k_) ∧ some k_ ≠ (u9000_ : Value).ownBlock ∧ some k_ ≠ (v215 : Value).ownBlock ∧ some k_ ≠ (v218 : Value).ownBlock) u9001_ l0_3) := ⟨h1_⟩
 have n2_ : Aside0 (Kd.R (Kd.int .i64) 3 w11 w0.heap.size (fun k_ => ((P0_2_ k_ ∨ P0_3_ k_) ∨ w.heap.size ≤ k_) ∧ some k_ ≠ (u9000_ : Value).ownBlock ∧ some k_ ≠ (u9001_ : Value).ownBlock ∧ some k_ ≠ (v218 : Value).ownBlock) v215 t214) := ⟨h2_⟩
 have n3_ : Aside0 (Kd.R (Kd.int .i64) 3 w11 w0.heap.size (fun k_ => ((P0_2_ k_ ∨ P0_3_ k_) ∨ w.heap.size ≤ k_) ∧ some k_ ≠ (u9000_ : Value).ownBlock ∧ some k_ ≠ (u9001_ : Value).ownBlock ∧ some k_ ≠ (v215 : Value).ownBlock) v218 t217) := ⟨h3_⟩
 have n4_ : Aside0 (w11.heap[gi0]? = some (.cells #[.slice A0_0 l0_0.length c0_0, .int .i64 a0_1, u9000_, u9001_, .int .i64 a0_4, .int .i64 a0_5, .bool true] 113 (0, 0))) := ⟨h4_⟩
 have n5_ : Aside0 (w11.heap[gb223]? = some (.cells #[.slice none 0 0, .slice none 0 0, .int .i64 0, .int .i64 0] 28 (0, 0))) := ⟨h5_⟩
 have n6_ : Aside0 (w.heap.size ≤ gb223) := ⟨h6_⟩
 have n7_ : Aside0 (w0.heap.size ≤ gb223) := ⟨h7_⟩
 have n8_ : Aside0 (gi0 ≠ gb223) := ⟨h8_⟩
 have n9_ : Aside0 (gb223 ≠ gi0) := ⟨h9_⟩
 have n10_ : Aside0 (Kept w w11 (fun k_ => (P0_2_ k_ ∨ P0_3_ k_) ∨ k_ = gi0)) := ⟨h10_⟩
 have n11_ : Aside0 (Below w0.heap.size w0 w11) := ⟨h11_⟩
 clear HO0_2
 clear HO0_3
 clear BK0
 clear HK
 clear HB
 clear h0_ h1_ h2_ h3_ h4_ h5_ h6_ h7_ h8_ h9_ h10_ h11_
 have HO0_2 := n0_
 have HO0_3 := n1_
 have HO216 := n2_
 have HO219 := n3_
 have BK0 := n4_
 have BK223 := n5_
 have GW223 := n6_
 have GE223 := n7_
 have NB0_223 := n8_
 have NB223_0 := n9_
 have HK := n10_
 have HB := n11_
 clear n0_ n1_ n2_ n3_ n4_ n5_ n6_ n7_ n8_ n9_ n10_ n11_
 have hHeld : w11.cell? ⟨gi0, 0, none⟩ = some (.slice A0_0 l0_0.length c0_0) ∧ w11.cell? ⟨gi0, 1, none⟩ = some (.int .i64 a0_1) ∧ w11.cell? ⟨gi0, 2, none⟩ = some (u9000_) ∧ w11.cell? ⟨gi0, 3, none⟩ = some (u9001_) ∧ w11.cell? ⟨gi0, 4, none⟩ = some (.int .i64 a0_4) ∧ w11.cell? ⟨gi0, 5, none⟩ = some (.int .i64 a0_5) ∧ w11.cell? ⟨gi0, 6, none⟩ = some (.bool true) := hS_
 obtain ⟨Ao12, co12, eo12⟩ := zaf HO216.out
 (first | subst eo12 | (injection eo12 with f1_ f2_ f3_; have f4_ := f1_.symm; have f5_ := f3_.symm; clear f1_ f2_ f3_; subst f4_; subst f5_))
 obtain ⟨Ao14, co14, eo14⟩ := zaf HO219.out
 (first | subst eo14 | (injection eo14 with f1_ f2_ f3_; have f4_ := f1_.symm; have f5_ := f3_.symm; clear f1_ f2_ f3_; subst f4_; subst f5_))
 refine norm_ (a' := ?_) ?_ ?_
 rotate_left
 ·simp only [putAll, Act.put, List.setIfInBounds_toArray, List.set_cons_zero, List.set_cons_succ]
  rfl
 refine one_ (i := 14) (N := none) b4A19 rfl rfl (one_of HT_.out zG101) zG102 (fun K hK => ?_)
 have hs13 : w11.cell? ⟨gb223, 0, none⟩ = some (.slice none 0 0) := (zg BK223.out 0).trans rfl
 have hfs13 := zh BK223.out 0
 have hns13_0 := NB0_223.out
 have hms13_0 := NB223_0.out
 have hs15 : w11.cell? ⟨gb223, 1, none⟩ = some (.slice none 0 0) := (zg BK223.out 1).trans rfl
 have hfs15 := zh BK223.out 1
 have hns15_0 := NB0_223.out
 have hms15_0 := NB223_0.out
 have hs16 : w11.cell? ⟨gb223, 2, none⟩ = some (.int .i64 0) := (zg BK223.out 2).trans rfl
 have hfs16 := zh BK223.out 2
 have hns16_0 := NB0_223.out
 have hms16_0 := NB223_0.out
 have hs17 : w11.cell? ⟨gb223, 3, none⟩ = some (.int .i64 0) := (zg BK223.out 3).trans rfl
 have hfs17 := zh BK223.out 3
 have hns17_0 := NB0_223.out
 have hms17_0 := NB223_0.out
 refine skip_ (w1 := ?_) (by rfl) rfl ?_ ?_
 rotate_left
 ·go_simp
  rfl
 refine hK.out _ _ ⟨((cell_far (p := ⟨gb223, _, none⟩) NB0_223.out _).trans (((cell_far (p := ⟨gb223, _, none⟩) NB0_223.out _).trans (((cell_far (p := ⟨gb223, _, none⟩) NB0_223.out _).trans (((cell_far (p := ⟨gb223, _, none⟩) NB0_223.out _).trans (hHeld.1)))))))), ((cell_far (p := ⟨gb223, _, none⟩) NB0_223.out _).trans (((cell_far (p := ⟨gb223, _, none⟩) NB0_223.out _).trans (((cell_far (p := ⟨gb223, _, none⟩) NB0_223.out _).trans (((cell_far (p := ⟨gb223, _, none⟩) NB0_223.out _).trans (hHeld.2.1)))))))), ((cell_far (p := ⟨gb223, _, none⟩) NB0_223.out _).trans (((cell_far (p := ⟨gb223, _, none⟩) NB0_223.out _).trans (((cell_far (p := ⟨gb223, _, none⟩) NB0_223.out _).trans (((cell_far (p := ⟨gb223, _, none⟩) NB0_223.out _).trans (hHeld.2.2.1)))))))), ((cell_far (p := ⟨gb223, _, none⟩) NB0_223.out _).trans (((cell_far (p := ⟨gb223, _, none⟩) NB0_223.out _).trans (((cell_far (p := ⟨gb223, _, none⟩) NB0_223.out _).trans (((cell_far (p := ⟨gb223, _, none⟩) NB0_223.out _).trans (hHeld.2.2.2.1)))))))), ((cell_far (p := ⟨gb223, _, none⟩) NB0_223.out _).trans (((cell_far (p := ⟨gb223, _, none⟩) NB0_223.out _).trans (((cell_far (p := ⟨gb223, _, none⟩) NB0_223.out _).trans (((cell_far (p := ⟨gb223, _, none⟩) NB0_223.out _).trans (hHeld.2.2.2.2.1)))))))), ((cell_far (p := ⟨gb223, _, none⟩) NB0_223.out _).trans (((cell_far (p := ⟨gb223, _, none⟩) NB0_223.out _).trans (((cell_far (p := ⟨gb223, _, none⟩) NB0_223.out _).trans (((cell_far (p := ⟨gb223, _, none⟩) NB0_223.out _).trans (hHeld.2.2.2.2.2.1)))))))), ((cell_far (p := ⟨gb223, _, none⟩) NB0_223.out _).trans (((cell_far (p := ⟨gb223, _, none⟩) NB0_223.out _).trans (((cell_far (p := ⟨gb223, _, none⟩) NB0_223.out _).trans (((cell_far (p := ⟨gb223, _, none⟩) NB0_223.out _).trans (hHeld.2.2.2.2.2.2))))))))⟩ (fun hHeld => ?_)
 clear hK K
 refine pure_ (i := 15) (N := some 5) (v := ?_) (a' := ?_) b4A20 rfl rfl (any_of HT_.out zG101) (fun _ _ _ h => h) (Or.inl ⟨by rfl, ?_⟩) ?_ ?_
 rotate_left
 ·intro w'
  go_simp
  with_reducible rfl
 rotate_left
 ·simp only [Act.put, List.setIfInBounds_toArray, List.set_cons_zero, List.set_cons_succ, i64_w, i32_w]
  rfl
 refine done_ (done_of HT_.out zG101) ?_
 have hnb18 := NB0_223.out
 have hnc18 := NB223_0.out
 have hcz19_0 : w11.cell? ⟨gi0, 0, none⟩ = some (.slice A0_0 l0_0.length c0_0) := (zg BK0.out 0).trans rfl
 have hcz19_1 : w11.cell? ⟨gi0, 1, none⟩ = some (.int .i64 a0_1) := (zg BK0.out 1).trans rfl
 have hcz19_2 : w11.cell? ⟨gi0, 2, none⟩ = some (u9000_) := (zg BK0.out 2).trans rfl
 have hcz19_3 : w11.cell? ⟨gi0, 3, none⟩ = some (u9001_) := (zg BK0.out 3).trans rfl
 have hcz19_4 : w11.cell? ⟨gi0, 4, none⟩ = some (.int .i64 a0_4) := (zg BK0.out 4).trans rfl
 have hcz19_5 : w11.cell? ⟨gi0, 5, none⟩ = some (.int .i64 a0_5) := (zg BK0.out 5).trans rfl
 have hcz19_6 : w11.cell? ⟨gi0, 6, none⟩ = some (.bool true) := (zg BK0.out 6).trans rfl
 have hfz19_0 := zh BK0.out 0
 have hfz19_1 := zh BK0.out 1
 have hfz19_2 := zh BK0.out 2
 have hfz19_3 := zh BK0.out 3
 have hfz19_4 := zh BK0.out 4
 have hfz19_5 := zh BK0.out 5
 have hfz19_6 := zh BK0.out 6
 try go_wp2
 have n0_ : Aside0 (Kd.R (Kd.int .i64) 3 ((((w11.setCell ⟨gb223, 0, none⟩ (.slice Ao12 t214.length co12)).setCell ⟨gb223, 1, none⟩ (.slice Ao14 t217.length co14)).setCell ⟨gb223, 2, none⟩ (.int .i64 t220)).setCell ⟨gb223, 3, none⟩ (.int .i64 t221)) w0.heap.size (fun k_ => ((P0_2_ k_ ∨ P0_3_ k_) ∨ w.heap.size ≤ k_) ∧ some k_ ≠ (u9001_ : Value).ownBlock ∧ some k_ ≠ (.slice Ao12 t214.length co12 : Value).ownBlock ∧ some k_ ≠ (.slice Ao14 t217.length co14 : Value).ownBlock) u9000_ l0_2) := ⟨by (with_reducible repeat (first | apply zk | apply zl | apply zm)); exact zp (zn (p := ⟨gb223, 3, none⟩) (zn (p := ⟨gb223, 2, none⟩) (zn (p := ⟨gb223, 1, none⟩) (zn (p := ⟨gb223, 0, none⟩) (zv HO0_2.out BK223.out zG102) (fun _ hk => hk.2) (.slice Ao12 t214.length co12)) (fun _ hk => hk.2) (.slice Ao14 t217.length co14)) (fun _ hk => hk.2) (.int .i64 t220)) (fun _ hk => hk.2) (.int .i64 t221)) (fun _ hk => ⟨hk.1.1, ⟨hk.1.2.1, ⟨hk.1.2.2.1, hk.1.2.2.2⟩⟩⟩)⟩
 have n1_ : Aside0 (Kd.R (Kd.int .i64) 3 ((((w11.setCell ⟨gb223, 0, none⟩ (.slice Ao12 t214.length co12)).setCell ⟨gb223, 1, none⟩ (.slice Ao14 t217.length co14)).setCell ⟨gb223, 2, none⟩ (.int .i64 t220)).setCell ⟨gb223, 3, none⟩ (.int .i64 t221)) w0.heap.size (fun k_ => ((P0_2_ k_ ∨ P0_3_ k_) ∨ w.heap.size ≤ k_) ∧ some k_ ≠ (u9000_ : Value).ownBlock ∧ some k_ ≠ (.slice Ao12 t214.length co12 : Value).ownBlock ∧ some k_ ≠ (.slice Ao14 t217.length co14 : Value).ownBlock) u9001_ l0_3) := ⟨by (with_reducible repeat (first | apply zk | apply zl | apply zm)); exact zp (zn (p := ⟨gb223, 3, none⟩) (zn (p := ⟨gb223, 2, none⟩) (zn (p := ⟨gb223, 1, none⟩) (zn (p := ⟨gb223, 0, none⟩) (zv HO0_3.out BK223.out zG102) (fun _ hk => hk.2) (.slice Ao12 t214.length co12)) (fun _ hk => hk.2) (.slice Ao14 t217.length co14)) (fun _ hk => hk.2) (.int .i64 t220)) (fun _ hk => hk.2) (.int .i64 t221)) (fun _ hk => ⟨hk.1.1, ⟨hk.1.2.1, ⟨hk.1.2.2.1, hk.1.2.2.2⟩⟩⟩)⟩
 have n2_ : Aside0 (Kd.R (Kd.int .i64) 3 ((((w11.setCell ⟨gb223, 0, none⟩ (.slice Ao12 t214.length co12)).setCell ⟨gb223, 1, none⟩ (.slice Ao14 t217.length co14)).setCell ⟨gb223, 2, none⟩ (.int .i64 t220)).setCell ⟨gb223, 3, none⟩ (.int .i64 t221)) w0.heap.size (fun k_ => ((P0_2_ k_ ∨ P0_3_ k_) ∨ w.heap.size ≤ k_) ∧ some k_ ≠ (u9000_ : Value).ownBlock ∧ some k_ ≠ (u9001_ : Value).ownBlock ∧ some k_ ≠ (.slice Ao14 t217.length co14 : Value).ownBlock) (.slice Ao12 t214.length co12) t214) := ⟨by (with_reducible repeat (first | apply zk | apply zl | apply zm)); exact zp (zn (p := ⟨gb223, 3, none⟩) (zn (p := ⟨gb223, 2, none⟩) (zn (p := ⟨gb223, 1, none⟩) (zn (p := ⟨gb223, 0, none⟩) (zv HO216.out BK223.out zG102) (fun _ hk => hk.2) (.slice Ao12 t214.length co12)) (fun _ hk => hk.2) (.slice Ao14 t217.length co14)) (fun _ hk => hk.2) (.int .i64 t220)) (fun _ hk => hk.2) (.int .i64 t221)) (fun _ hk => ⟨hk.1.1, ⟨hk.1.2.1, ⟨hk.1.2.2.1, hk.1.2.2.2⟩⟩⟩)⟩
 have n3_ : Aside0 (Kd.R (Kd.int .i64) 3 ((((w11.setCell ⟨gb223, 0, none⟩ (.slice Ao12 t214.length co12)).setCell ⟨gb223, 1, none⟩ (.slice Ao14 t217.length co14)).setCell ⟨gb223, 2, none⟩ (.int .i64 t220)).setCell ⟨gb223, 3, none⟩ (.int .i64 t221)) w0.heap.size (fun k_ => ((P0_2_ k_ ∨ P0_3_ k_) ∨ w.heap.size ≤ k_) ∧ some k_ ≠ (u9000_ : Value).ownBlock ∧ some k_ ≠ (u9001_ : Value).ownBlock ∧ some k_ ≠ (.slice Ao12 t214.length co12 : Value).ownBlock) (.slice Ao14 t217.length co14) t217) := ⟨by (with_reducible repeat (first | apply zk | apply zl | apply zm)); exact zp (zn (p := ⟨gb223, 3, none⟩) (zn (p := ⟨gb223, 2, none⟩) (zn (p := ⟨gb223, 1, none⟩) (zn (p := ⟨gb223, 0, none⟩) (zv HO219.out BK223.out zG102) (fun _ hk => hk.2) (.slice Ao12 t214.length co12)) (fun _ hk => hk.2) (.slice Ao14 t217.length co14)) (fun _ hk => hk.2) (.int .i64 t220)) (fun _ hk => hk.2) (.int .i64 t221)) (fun _ hk => ⟨hk.1.1, ⟨hk.1.2.1, ⟨hk.1.2.2.1, hk.1.2.2.2⟩⟩⟩)⟩
 have n4_ : Aside0 (((((w11.setCell ⟨gb223, 0, none⟩ (.slice Ao12 t214.length co12)).setCell ⟨gb223, 1, none⟩ (.slice Ao14 t217.length co14)).setCell ⟨gb223, 2, none⟩ (.int .i64 t220)).setCell ⟨gb223, 3, none⟩ (.int .i64 t221)).heap[gi0]? = some (.cells #[.slice A0_0 l0_0.length c0_0, .int .i64 a0_1, u9000_, u9001_, .int .i64 a0_4, .int .i64 a0_5, .bool true] 113 (0, 0))) := ⟨zH8⟩
 have n5_ : Aside0 (((((w11.setCell ⟨gb223, 0, none⟩ (.slice Ao12 t214.length co12)).setCell ⟨gb223, 1, none⟩ (.slice Ao14 t217.length co14)).setCell ⟨gb223, 2, none⟩ (.int .i64 t220)).setCell ⟨gb223, 3, none⟩ (.int .i64 t221)).heap[gb223]? = some (.cells #[.slice Ao12 t214.length co12, .slice Ao14 t217.length co14, .int .i64 t220, .int .i64 t221] 28 (0, 0))) := ⟨by (with_reducible repeat (first | refine zc ?_ _ | refine zd ?_ | refine zb ?_ _)); refine zw (cs := #[.slice Ao12 t214.length co12, .slice Ao14 t217.length co14, .int .i64 t220, .int .i64 0]) ?_ 3 _ rfl; (with_reducible repeat (first | refine zc ?_ _ | refine zd ?_ | refine zb ?_ _)); refine zw (cs := #[.slice Ao12 t214.length co12, .slice Ao14 t217.length co14, .int .i64 0, .int .i64 0]) ?_ 2 _ rfl; (with_reducible repeat (first | refine zc ?_ _ | refine zd ?_ | refine zb ?_ _)); refine zw (cs := #[.slice Ao12 t214.length co12, .slice none 0 0, .int .i64 0, .int .i64 0]) ?_ 1 _ rfl; (with_reducible repeat (first | refine zc ?_ _ | refine zd ?_ | refine zb ?_ _)); refine zw (cs := #[.slice none 0 0, .slice none 0 0, .int .i64 0, .int .i64 0]) ?_ 0 _ rfl; (with_reducible repeat (first | refine zc ?_ _ | refine zd ?_ | refine zb ?_ _)); exact BK223.out⟩
 have n6_ : Aside0 (Kept w ((((w11.setCell ⟨gb223, 0, none⟩ (.slice Ao12 t214.length co12)).setCell ⟨gb223, 1, none⟩ (.slice Ao14 t217.length co14)).setCell ⟨gb223, 2, none⟩ (.int .i64 t220)).setCell ⟨gb223, 3, none⟩ (.int .i64 t221)) (fun k_ => (P0_2_ k_ ∨ P0_3_ k_) ∨ k_ = gi0)) := ⟨zH29⟩
 have n7_ : Aside0 (Below w0.heap.size w0 ((((w11.setCell ⟨gb223, 0, none⟩ (.slice Ao12 t214.length co12)).setCell ⟨gb223, 1, none⟩ (.slice Ao14 t217.length co14)).setCell ⟨gb223, 2, none⟩ (.int .i64 t220)).setCell ⟨gb223, 3, none⟩ (.int .i64 t221))) := ⟨zH52⟩
 (try clear HO0_2)
 (try clear HO0_3)
 (try clear HO216)
 (try clear HO219)
 (try clear BK0)
 (try clear BK223)
 (try clear HK)
 (try clear HB)
 generalize ((((w11.setCell ⟨gb223, 0, none⟩ (.slice Ao12 t214.length co12)).setCell ⟨gb223, 1, none⟩ (.slice Ao14 t217.length co14)).setCell ⟨gb223, 2, none⟩ (.int .i64 t220)).setCell ⟨gb223, 3, none⟩ (.int .i64 t221)) = w20 at n0_ n1_ n2_ n3_ n4_ n5_ n6_ n7_ ⊢
 have HO0_2 := n0_
 have HO0_3 := n1_
 have HO216 := n2_
 have HO219 := n3_
 have BK0 := n4_
 have BK223 := n5_
 have HK := n6_
 have HB := n7_
 clear n0_ n1_ n2_ n3_ n4_ n5_ n6_ n7_
 have n0_ := za (zm HO0_2.out)
 have n1_ := za (zm HO0_3.out)
 have n2_ := za (zm HO216.out)
 have n3_ := za (zm HO219.out)
 have n4_ := za (zd BK0.out)
 have n5_ := za (zd BK223.out)
 have n6_ := za (Kept.drew HK.out)
 have n7_ := za (zi HB.out)
 clear HO0_2
 clear HO0_3
 clear HO216
 clear HO219
 clear BK0
 clear BK223
 clear HK
 clear HB
 have HO0_2 := n0_
 have HO0_3 := n1_
 have HO216 := n2_
 have HO219 := n3_
 have BK0 := n4_
 have BK223 := n5_
 have HK := n6_
 have HB := n7_
 clear n0_ n1_ n2_ n3_ n4_ n5_ n6_ n7_
 refine start_ (n := 15) (S := fun w' => w'.cell? ⟨gi0, 0, none⟩ = some (.slice A0_0 l0_0.length c0_0) ∧ w'.cell? ⟨gi0, 1, none⟩ = some (.int .i64 a0_1) ∧ w'.cell? ⟨gi0, 2, none⟩ = some (u9000_) ∧ w'.cell? ⟨gi0, 3, none⟩ = some (u9001_) ∧ w'.cell? ⟨gi0, 4, none⟩ = some (.int .i64 a0_4) ∧ w'.cell? ⟨gi0, 5, none⟩ = some (.int .i64 a0_5) ∧ w'.cell? ⟨gi0, 6, none⟩ = some (.bool true) ∧ w'.cell? ⟨gb223, 0, none⟩ = some (.slice Ao12 t214.length co12) ∧ w'.cell? ⟨gb223, 1, none⟩ = some (.slice Ao14 t217.length co14) ∧ w'.cell? ⟨gb223, 2, none⟩ = some (.int .i64 t220) ∧ w'.cell? ⟨gb223, 3, none⟩ = some (.int .i64 t221)) (ds := []) b4A21 zG101 rfl rfl ⟨(zg BK0.out 0).trans rfl, (zg BK0.out 1).trans rfl, (zg BK0.out 2).trans rfl, (zg BK0.out 3).trans rfl, (zg BK0.out 4).trans rfl, (zg BK0.out 5).trans rfl, (zg BK0.out 6).trans rfl, (zg BK223.out 0).trans rfl, (zg BK223.out 1).trans rfl, (zg BK223.out 2).trans rfl, (zg BK223.out 3).trans rfl⟩ (fun hHeld => ?_); refine with_tabW spec_l20Search_try.tab3 spec_l20Search_try.bits3 (fun HT_ HW_ => ?_)
 generalize w20.drew = w21 at HO0_2 HO0_3 HO216 HO219 BK0 BK223 HK HB hHeld ⊢
 refine pure_ (i := 0) (N := some 32) (v := ?_) (a' := ?_) b4A22 rfl rfl (any_of HT_.out zG101) (fun _ _ _ h => h) (Or.inl ⟨by rfl, ?_⟩) ?_ ?_
 rotate_left
 ·intro w'
  go_simp
  with_reducible rfl
 rotate_left
 ·simp only [Act.put, List.setIfInBounds_toArray, List.set_cons_zero, List.set_cons_succ, i64_w, i32_w]
  rfl
 refine pure_ (i := 1) (N := some 33) (v := ?_) (a' := ?_) b4A23 rfl rfl (any_of HT_.out zG101) (fun _ _ _ h => h) (Or.inl ⟨by rfl, ?_⟩) ?_ ?_
 rotate_left
 ·intro w'
  go_simp
  with_reducible rfl
 rotate_left
 ·simp only [Act.put, List.setIfInBounds_toArray, List.set_cons_zero, List.set_cons_succ, i64_w, i32_w]
  rfl
 refine pure_ (i := 2) (N := some 34) (v := ?_) (a' := ?_) b4A24 rfl rfl (any_of HT_.out zG101) (fun _ _ _ h => h) (Or.inl ⟨by rfl, ?_⟩) ?_ ?_
 rotate_left
 ·intro w'
  go_simp
  with_reducible rfl
 rotate_left
 ·simp only [Act.put, List.setIfInBounds_toArray, List.set_cons_zero, List.set_cons_succ, i64_w, i32_w]
  rfl
 refine take_ (i := 3) (N := some 35) (v := ?_) (a' := ?_) b4A25 rfl rfl (take_ofW HT_.out HW_.out zG101) (fun _ _ _ h => h) (Or.inl ⟨by rfl, ?_⟩) hHeld ?_ ?_
 rotate_left
 ·rintro w' ⟨s0, s1, s2, s3, s4, s5, s6, s7, s8, s9, s10⟩
  go_simp
  with_reducible rfl
 rotate_left
 ·simp only [Act.put, List.setIfInBounds_toArray, List.set_cons_zero, List.set_cons_succ, i64_w, i32_w]
  rfl
 refine pure_ (i := 4) (N := some 36) (v := ?_) (a' := ?_) b4A26 rfl rfl (any_of HT_.out zG101) (fun _ _ _ h => h) (Or.inl ⟨by rfl, ?_⟩) ?_ ?_
 rotate_left
 ·intro w'
  go_simp
  with_reducible rfl
 rotate_left
 ·simp only [Act.put, List.setIfInBounds_toArray, List.set_cons_zero, List.set_cons_succ, i64_w, i32_w]
  rfl
 refine pure_ (i := 5) (N := some 37) (v := ?_) (a' := ?_) b4A27 rfl rfl (any_of HT_.out zG101) (fun _ _ _ h => h) (Or.inl ⟨by rfl, ?_⟩) ?_ ?_
 rotate_left
 ·intro w'
  go_simp
  with_reducible rfl
 rotate_left
 ·simp only [Act.put, List.setIfInBounds_toArray, List.set_cons_zero, List.set_cons_succ, i64_w, i32_w]
  rfl
 refine pure_ (i := 6) (N := some 38) (v := ?_) (a' := ?_) b4A28 rfl rfl (any_of HT_.out zG101) (fun _ _ _ h => h) (Or.inl ⟨by rfl, ?_⟩) ?_ ?_
 rotate_left
 ·intro w'
  go_simp
  with_reducible rfl
 rotate_left
 ·simp only [Act.put, List.setIfInBounds_toArray, List.set_cons_zero, List.set_cons_succ, i64_w, i32_w]
  rfl
 refine pure_ (i := 8) (N := some 40) (v := ?_) (a' := ?_) b4A33 rfl rfl (any_of HT_.out zG101) (fun _ _ _ h => h) (Or.inl ⟨by rfl, ?_⟩) ?_ ?_
 rotate_left
 ·intro w'
  go_simp
  with_reducible rfl
 rotate_left
 ·simp only [Act.put, List.setIfInBounds_toArray, List.set_cons_zero, List.set_cons_succ, i64_w, i32_w]
  rfl
 refine pure_ (i := 9) (N := some 41) (v := ?_) (a' := ?_) b4A34 rfl rfl (any_of HT_.out zG101) (fun _ _ _ h => h) (Or.inl ⟨by rfl, ?_⟩) ?_ ?_
 rotate_left
 ·intro w'
  go_simp
  with_reducible rfl
 rotate_left
 ·simp only [Act.put, List.setIfInBounds_toArray, List.set_cons_zero, List.set_cons_succ, i64_w, i32_w]
  rfl
 refine pure_ (i := 10) (N := some 42) (v := ?_) (a' := ?_) b4A35 rfl rfl (any_of HT_.out zG101) (fun _ _ _ h => h) (Or.inl ⟨by rfl, ?_⟩) ?_ ?_
 rotate_left
 ·intro w'
  go_simp
  with_reducible rfl
 rotate_left
 ·simp only [Act.put, List.setIfInBounds_toArray, List.set_cons_zero, List.set_cons_succ, i64_w, i32_w]
  rfl
 refine pure_ (i := 11) (N := some 43) (v := ?_) (a' := ?_) b4A36 rfl rfl (any_of HT_.out zG101) (fun _ _ _ h => h) (Or.inl ⟨by rfl, ?_⟩) ?_ ?_
 rotate_left
 ·intro w'
  go_simp
  with_reducible rfl
 rotate_left
 ·simp only [Act.put, List.setIfInBounds_toArray, List.set_cons_zero, List.set_cons_succ, i64_w, i32_w]
  rfl
 refine take_ (i := 7) (N := some 39) (v := ?_) (a' := ?_) b4A29 rfl rfl (take_ofW HT_.out HW_.out zG101) (fun _ _ _ h => h) (Or.inl ⟨by rfl, ?_⟩) hHeld ?_ ?_
 rotate_left
 ·rintro w' ⟨s0, s1, s2, s3, s4, s5, s6, s7, s8, s9, s10⟩
  go_simp
  with_reducible rfl
 rotate_left
 ·simp only [Act.put, List.setIfInBounds_toArray, List.set_cons_zero, List.set_cons_succ, i64_w, i32_w]
  rfl
 refine take_ (i := 12) (N := some 44) (v := ?_) (a' := ?_) b4A30 rfl rfl (take_ofW HT_.out HW_.out zG101) (fun _ _ _ h => h) (Or.inl ⟨by rfl, ?_⟩) hHeld ?_ ?_
 rotate_left
 ·rintro w' ⟨s0, s1, s2, s3, s4, s5, s6, s7, s8, s9, s10⟩
  go_simp
  with_reducible rfl
 rotate_left
 ·simp only [Act.put, List.setIfInBounds_toArray, List.set_cons_zero, List.set_cons_succ, i64_w, i32_w]
  rfl
 refine pure_ (i := 13) (N := some 45) (v := ?_) (a' := ?_) b4A31 rfl rfl (any_of HT_.out zG101) (fun _ _ _ h => h) (Or.inl ⟨by rfl, ?_⟩) ?_ ?_
 rotate_left
 ·intro w'
  go_simp
  with_reducible rfl
 rotate_left
 ·simp only [Act.put, List.setIfInBounds_toArray, List.set_cons_zero, List.set_cons_succ, i64_w, i32_w]
  rfl
 refine pure_ (i := 14) (N := some 46) (v := ?_) (a' := ?_) b4A32 rfl rfl (any_of HT_.out zG101) (fun _ _ _ h => h) (Or.inl ⟨by rfl, ?_⟩) ?_ ?_
 rotate_left
 ·intro w'
  go_simp
  with_reducible rfl
 rotate_left
 ·simp only [Act.put, List.setIfInBounds_toArray, List.set_cons_zero, List.set_cons_succ, i64_w, i32_w]
  rfl
 refine done_ (done_of HT_.out zG101) ?_
 have hcz22_0 : w21.cell? ⟨gb223, 0, none⟩ = some (.slice Ao12 t214.length co12) := (zg BK223.out 0).trans rfl
 have hcz22_1 : w21.cell? ⟨gb223, 1, none⟩ = some (.slice Ao14 t217.length co14) := (zg BK223.out 1).trans rfl
 have hcz22_2 : w21.cell? ⟨gb223, 2, none⟩ = some (.int .i64 t220) := (zg BK223.out 2).trans rfl
 have hcz22_3 : w21.cell? ⟨gb223, 3, none⟩ = some (.int .i64 t221) := (zg BK223.out 3).trans rfl
 have hfz22_0 := zh BK223.out 0
 have hfz22_1 := zh BK223.out 1
 have hfz22_2 := zh BK223.out 2
 have hfz22_3 := zh BK223.out 3
 have hcz23_0 : w21.cell? ⟨gi0, 0, none⟩ = some (.slice A0_0 l0_0.length c0_0) := (zg BK0.out 0).trans rfl
 have hcz23_1 : w21.cell? ⟨gi0, 1, none⟩ = some (.int .i64 a0_1) := (zg BK0.out 1).trans rfl
 have hcz23_2 : w21.cell? ⟨gi0, 2, none⟩ = some (u9000_) := (zg BK0.out 2).trans rfl
 have hcz23_3 : w21.cell? ⟨gi0, 3, none⟩ = some (u9001_) := (zg BK0.out 3).trans rfl
 have hcz23_4 : w21.cell? ⟨gi0, 4, none⟩ = some (.int .i64 a0_4) := (zg BK0.out 4).trans rfl
 have hcz23_5 : w21.cell? ⟨gi0, 5, none⟩ = some (.int .i64 a0_5) := (zg BK0.out 5).trans rfl
 have hcz23_6 : w21.cell? ⟨gi0, 6, none⟩ = some (.bool true) := (zg BK0.out 6).trans rfl
 have hfz23_0 := zh BK0.out 0
 have hfz23_1 := zh BK0.out 1
 have hfz23_2 := zh BK0.out 2
 have hfz23_3 := zh BK0.out 3
 have hfz23_4 := zh BK0.out 4
 have hfz23_5 := zh BK0.out 5
 have hfz23_6 := zh BK0.out 6
 try go_wp2
 first | go_end0 | ((try simp only [Exit.inBlock, Exit.then]); refine bodyPost_ret (results_none rfl _ _ _) rfl ?_)
 exact ⟨_, _, zH86, by (with_reducible repeat (first | apply zk | apply zl | apply zm)); exact zp (zn (p := ⟨gi0, 6, none⟩) (zn (p := ⟨gi0, 5, none⟩) (zn (p := ⟨gi0, 4, none⟩) (zn (p := ⟨gi0, 3, none⟩) (zn (p := ⟨gi0, 2, none⟩) (zv HO216.out BK0.out zG102) (fun _ hk => hk.2) (.slice Ao12 t214.length co12)) (fun _ hk => hk.2) (.slice Ao14 t217.length co14)) (fun _ hk => hk.2) (.int .i64 t220)) (fun _ hk => hk.2) (.int .i64 t221)) (fun _ hk => hk.2) (.bool true)) (fun _ hk => ⟨hk.1.1, hk.1.2.2.2⟩), by (with_reducible repeat (first | apply zk | apply zl | apply zm)); exact zp (zn (p := ⟨gi0, 6, none⟩) (zn (p := ⟨gi0, 5, none⟩) (zn (p := ⟨gi0, 4, none⟩) (zn (p := ⟨gi0, 3, none⟩) (zn (p := ⟨gi0, 2, none⟩) (zv HO219.out BK0.out zG102) (fun _ hk => hk.2) (.slice Ao12 t214.length co12)) (fun _ hk => hk.2) (.slice Ao14 t217.length co14)) (fun _ hk => hk.2) (.int .i64 t220)) (fun _ hk => hk.2) (.int .i64 t221)) (fun _ hk => hk.2) (.bool true)) (fun _ hk => ⟨hk.1.1, hk.1.2.2.2⟩), (by (with_reducible repeat (first | refine zc ?_ _ | refine zd ?_ | refine zb ?_ _)); refine zw (cs := #[.slice A0_0 l0_0.length c0_0, .int .i64 a0_1, .slice Ao12 t214.length co12, .slice Ao14 t217.length co14, .int .i64 t220, .int .i64 t221, .bool true]) ?_ 6 _ rfl; (with_reducible repeat (first | refine zc ?_ _ | refine zd ?_ | refine zb ?_ _)); refine zw (cs := #[.slice A0_0 l0_0.length c0_0, .int .i64 a0_1, .slice Ao12 t214.length co12, .slice Ao14 t217.length co14, .int .i64 t220, .int .i64 a0_5, .bool true]) ?_ 5 _ rfl; (with_reducible repeat (first | refine zc ?_ _ | refine zd ?_ | refine zb ?_ _)); refine zw (cs := #[.slice A0_0 l0_0.length c0_0, .int .i64 a0_1, .slice Ao12 t214.length co12, .slice Ao14 t217.length co14, .int .i64 a0_4, .int .i64 a0_5, .bool true]) ?_ 4 _ rfl; (with_reducible repeat (first | refine zc ?_ _ | refine zd ?_ | refine zb ?_ _)); refine zw (cs := #[.slice A0_0 l0_0.length c0_0, .int .i64 a0_1, .slice Ao12 t214.length co12, u9001_, .int .i64 a0_4, .int .i64 a0_5, .bool true]) ?_ 3 _ rfl; (with_reducible repeat (first | refine zc ?_ _ | refine zd ?_ | refine zb ?_ _)); refine zw (cs := #[.slice A0_0 l0_0.length c0_0, .int .i64 a0_1, u9000_, u9001_, .int .i64 a0_4, .int .i64 a0_5, .bool true]) ?_ 2 _ rfl; (with_reducible repeat (first | refine zc ?_ _ | refine zd ?_ | refine zb ?_ _)); exact BK0.out), zH52, zH29⟩
end Go.Proofs.Ytojncbpeeboooaa.T
