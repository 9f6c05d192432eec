-- squeezed
-- made by pp.py (wip/tools) out of the translation; Lean checks it
import Derived.Test.YtojncbpeeboooaaQ0
import Derived.Test.YtojncbpeeboooaaQ5
namespace Go.Proofs.Ytojncbpeeboooaa.Q
open Go.RowKit Go.Proofs.YtojncbpeeboooaaW.PrintWords Go.Proofs.YtojncbpeeboooaaW.PrintLast Go.Proofs.YtojncbpeeboooaaW.PrintMore
attribute [local go_sem] max2_int min2_int max_two min_two max_three min_three max_four min_four   -- for this text's walks alone
set_option linter.unusedVariables false
set_option linter.unusedSimpArgs false

abbrev b6A0 := zM 16 16383
abbrev b6A1 := zM 16 0
abbrev b6A2 := zM 16 1
abbrev b6A3 := zM 16 3
abbrev b6A4 := zM 16 7
abbrev b6A5 := zM 16 23
abbrev b6A6 := zM 16 55
abbrev b6A7 := zM 16 119
abbrev b6A8 := zM 16 375
abbrev b6A9 := zM 16 383
abbrev b6A10 := zM 16 511
abbrev b6A11 := zM 16 1023
abbrev b6A12 := zM 16 8703
abbrev b6A13 := zM 16 2047
abbrev b6A14 := zM 16 4095
abbrev b6A15 := zM 16 8191
abbrev b6A16 := zM 16 9215
abbrev b6A17 := zM 16 10239
abbrev b6A18 := zM 16 12287
abbrev b6A19 := zM 16 32767
abbrev b6A20 := zM 16 65535
abbrev b6A21 := zM 15 0
abbrev b6A22 := zM 15 1
abbrev b6A23 := zM 15 3
abbrev b6A24 := zM 15 7
abbrev b6A25 := zM 15 15
abbrev b6A26 := zM 15 31
abbrev b6A27 := zM 15 63
abbrev b6A28 := zM 15 127
abbrev b6A29 := zM 15 4095
abbrev b6A30 := zM 15 8191
abbrev b6A31 := zM 15 16383
abbrev b6A32 := zM 15 32767
abbrev b6A33 := zM 15 383
abbrev b6A34 := zM 15 895
abbrev b6A35 := zM 15 1919
abbrev b6A36 := zM 15 3967
/-! ### spec_l20Search_try: function 69 -/
mutual
def spec_l20Search_try.l0 : Nat → List Int → Int → List (S37) → Int → List Int → List Int → Int → Int → Bool → Option (List Int × List Int × Int × Int × Bool)
 | 0, _, _, _, _, _, _, _, _, _ => none
 | k + 1, x1, x6, x1000, x1001, x1002, x1003, x1004, x1005, x1006 => if x6 < (x1000.length : Int) then (spec_l20Search_try.l1 k x1 x6 false 0 x1000 x1001 x1002 x1003 x1004 x1005 x1006) else (some (x1002, x1003, x1004, x1005, x1006))
def spec_l20Search_try.l1 : Nat → List Int → Int → Bool → Int → List (S37) → Int → List Int → List Int → Int → Int → Bool → Option (List Int × List Int × Int × Int × Bool)
 | 0, _, _, _, _, _, _, _, _, _, _, _ => none
 | k + 1, x1, x6, x7, x8, x1000, x1001, x1002, x1003, x1004, x1005, x1006 => if x8 < (x1.length : Int) then (if x7 = true then (spec_l20Search_try.l1 k x1 x6 true (wrap64 (x8 + 1)) x1000 x1001 x1002 x1003 x1004 x1005 x1006) else (if 0 ≤ x8 then (spec_l20Search_try.l1 k x1 x6 ((rd x1 x8) == x6) (wrap64 (x8 + 1)) x1000 x1001 x1002 x1003 x1004 x1005 x1006) else (none))) else (if x7 = true then (spec_l20Search_try.l0 k x1 (wrap64 (x6 + 1)) x1000 x1001 x1002 x1003 x1004 x1005 x1006) else ((some (([] : List Int) : List Int)).bind fun y313 => (if y313.length + x1.length < 17592186044416 then ((some (y313 ++ x1 : List Int)).bind fun y316 => (if y316.length < 17592186044416 then ((spec_l20Search_try.f k x1000 x1001 x1002 x1003 x1004 x1005 x1006 (y316 ++ [x6])).bind fun bt322 => (spec_l20Search_try.l0 k x1 (wrap64 (x6 + 1)) x1000 x1001 bt322.1 bt322.2.1 bt322.2.2.1 bt322.2.2.2.1 bt322.2.2.2.2)) else (none))) else (none))))
def spec_l20Search_try.f : Nat → List (S37) → Int → List Int → List Int → Int → Int → Bool → List Int → Option (List Int × List Int × Int × Int × Bool)
 | 0, _, _, _, _, _, _, _, _ => none
 | k + 1, l0_0, a0_1, l0_2, l0_3, a0_4, a0_5, a0_6, l1 => (spec_l20Route.f k l0_0 a0_1 l1).bind fun bt302 => (if bt302.2.2.2.2 = true then (if (l1.length : Int) = (l0_0.length : Int) then (if a0_6 = true then (if bt302.2.2.2.1 < a0_5 then (some (bt302.1, bt302.2.1, bt302.2.2.1, bt302.2.2.2.1, true)) else (some (l0_2, l0_3, a0_4, a0_5, a0_6))) else (some (bt302.1, bt302.2.1, bt302.2.2.1, bt302.2.2.2.1, true))) else (spec_l20Search_try.l0 k l1 0 l0_0 a0_1 l0_2 l0_3 a0_4 a0_5 a0_6)) else (some (l0_2, l0_3, a0_4, a0_5, a0_6)))
end
theorem spec_l20Search_try.mono_l : ∀ k, (∀ y0 y1 y2 y3 y4 y5 y6 y7, LeO (spec_l20Search_try.f k y0 y1 y2 y3 y4 y5 y6 y7) (spec_l20Search_try.f (k + 1) y0 y1 y2 y3 y4 y5 y6 y7)) ∧ (∀ y0 y1 y2 y3 y4 y5 y6 y7 y8, LeO (spec_l20Search_try.l0 k y0 y1 y2 y3 y4 y5 y6 y7 y8) (spec_l20Search_try.l0 (k + 1) y0 y1 y2 y3 y4 y5 y6 y7 y8)) ∧ (∀ y0 y1 y2 y3 y4 y5 y6 y7 y8 y9 y10, LeO (spec_l20Search_try.l1 k y0 y1 y2 y3 y4 y5 y6 y7 y8 y9 y10) (spec_l20Search_try.l1 (k + 1) y0 y1 y2 y3 y4 y5 y6 y7 y8 y9 y10))
 | 0 => ⟨fun _ _ _ _ _ _ _ _ r h => by simp [spec_l20Search_try.f] at h, fun _ _ _ _ _ _ _ _ _ r h => by simp [spec_l20Search_try.l0] at h, fun _ _ _ _ _ _ _ _ _ _ _ r h => by simp [spec_l20Search_try.l1] at h⟩
 | k + 1 => by
  obtain ⟨ih0, ih1, ih2⟩ := spec_l20Search_try.mono_l k
  refine ⟨?_, ?_, ?_⟩
  ·intro y0 y1 y2 y3 y4 y5 y6 y7
   unfold spec_l20Search_try.f
   repeat' first
   | (with_reducible exact ih0 _ _ _ _ _ _ _ _)
   | (with_reducible exact ih1 _ _ _ _ _ _ _ _ _)
   | (with_reducible exact ih2 _ _ _ _ _ _ _ _ _ _ _)
   | (with_reducible exact spec_l20Route.mono _ _ _ _)
   | (with_reducible exact LeO.refl _)
   | (with_reducible exact LeO.none _)
   | (with_reducible refine LeO.ite ?_ ?_)
   | (with_reducible refine LeO.bind ?_ (fun _ => ?_))
   | exact ih0 _ _ _ _ _ _ _ _
   | exact ih1 _ _ _ _ _ _ _ _ _
   | exact ih2 _ _ _ _ _ _ _ _ _ _ _
   | exact spec_l20Route.mono _ _ _ _
   | exact LeO.none _
   | refine LeO.ite ?_ ?_
   | refine LeO.bind ?_ (fun _ => ?_)
  ·intro y0 y1 y2 y3 y4 y5 y6 y7 y8
   unfold spec_l20Search_try.l0
   repeat' first
   | (with_reducible exact ih0 _ _ _ _ _ _ _ _)
   | (with_reducible exact ih1 _ _ _ _ _ _ _ _ _)
   | (with_reducible exact ih2 _ _ _ _ _ _ _ _ _ _ _)
   | (with_reducible exact spec_l20Route.mono _ _ _ _)
   | (with_reducible exact LeO.refl _)
   | (with_reducible exact LeO.none _)
   | (with_reducible refine LeO.ite ?_ ?_)
   | (with_reducible refine LeO.bind ?_ (fun _ => ?_))
   | exact ih0 _ _ _ _ _ _ _ _
   | exact ih1 _ _ _ _ _ _ _ _ _
   | exact ih2 _ _ _ _ _ _ _ _ _ _ _
   | exact spec_l20Route.mono _ _ _ _
   | exact LeO.none _
   | refine LeO.ite ?_ ?_
   | refine LeO.bind ?_ (fun _ => ?_)
  ·intro y0 y1 y2 y3 y4 y5 y6 y7 y8 y9 y10
   unfold spec_l20Search_try.l1
   repeat' first
   | (with_reducible exact ih0 _ _ _ _ _ _ _ _)
   | (with_reducible exact ih1 _ _ _ _ _ _ _ _ _)
   | (with_reducible exact ih2 _ _ _ _ _ _ _ _ _ _ _)
   | (with_reducible exact spec_l20Route.mono _ _ _ _)
   | (with_reducible exact LeO.refl _)
   | (with_reducible exact LeO.none _)
   | (with_reducible refine LeO.ite ?_ ?_)
   | (with_reducible refine LeO.bind ?_ (fun _ => ?_))
   | exact ih0 _ _ _ _ _ _ _ _
   | exact ih1 _ _ _ _ _ _ _ _ _
   | exact ih2 _ _ _ _ _ _ _ _ _ _ _
   | exact spec_l20Route.mono _ _ _ _
   | exact LeO.none _
   | refine LeO.ite ?_ ?_
   | refine LeO.bind ?_ (fun _ => ?_)
theorem spec_l20Search_try.mono : ∀ a0 a1 a2 a3 a4 a5 a6 a7 k, LeO (spec_l20Search_try.f k a0 a1 a2 a3 a4 a5 a6 a7) (spec_l20Search_try.f (k + 1) a0 a1 a2 a3 a4 a5 a6 a7) := by
 intro a0 a1 a2 a3 a4 a5 a6 a7 k
 obtain ⟨ih0, ih1, ih2⟩ := spec_l20Search_try.mono_l k
 exact ih0 a0 a1 a2 a3 a4 a5 a6 a7
def spec_l20Search_try.T0 : Bool × List (List Nat × List Nat) := (true, [([], []), ([0], [0]), ([1], [1]), ([2], [2]), ([], []), ([4], [4]), ([5], [5]), ([6], [6]), ([], []), ([3, 7, 8], [3, 7, 8]), ([9], [9]), ([10], [10]), ([10], [10]), ([], []), ([13, 11, 9, 0, 1, 2, 3, 4, 5, 6, 7, 8, 9, 10, 11, 13], [11, 13]), ([12, 14, 0, 1, 2, 3, 4, 5, 6, 7, 8, 9, 10, 11, 12, 13, 14], [12])])
def spec_l20Search_try.B0 : List Nat := [0, 1, 3, 7, 0, 16, 48, 112, 0, 511, 1023, 2047, 2047, 0, 12287, 32767]
theorem spec_l20Search_try.tab0 : rtab .any (opsOf Try.f69 0) = spec_l20Search_try.T0 := by kernel_rfl
theorem spec_l20Search_try.bits0 : waitsOk spec_l20Search_try.T0.2 spec_l20Search_try.B0 = true := by kernel_rfl
def spec_l20Search_try.T3 : Bool × List (List Nat × List Nat) := (true, [([], []), ([0], [0]), ([1], [1]), ([2], [2]), ([3], [3]), ([4], [4]), ([5], [5]), ([6, 5], [5, 6]), ([5], [5]), ([8, 5], [5, 8]), ([9, 5], [5, 9]), ([10, 5], [5, 10]), ([11, 5], [5, 11]), ([7, 12, 5], [5, 7, 12]), ([5, 13], [5, 13])])
def spec_l20Search_try.B3 : List Nat := [0, 1, 3, 7, 15, 31, 63, 127, 63, 319, 831, 1855, 3903, 8191, 16383]
theorem spec_l20Search_try.tab3 : rtab .any (opsOf Try.f69 3) = spec_l20Search_try.T3 := by kernel_rfl
theorem spec_l20Search_try.bits3 : waitsOk spec_l20Search_try.T3.2 spec_l20Search_try.B3 = true := by kernel_rfl
set_option maxHeartbeats 64000000 in
set_option maxRecDepth 100000 in
theorem spec_l20Search_try.calls (k : Nat) : ∀ (gi0 : Nat) (A0_0 : Option Addr) (c0_0 : Nat) (l0_0 : List (S37)) (a0_1 : Int) (P0_2_ : Nat → Prop) (u9000_ : Value) (l0_2 : List Int) (P0_3_ : Nat → Prop) (u9001_ : Value) (l0_3 : List Int) (a0_4 : Int) (a0_5 : Int) (a0_6 : Bool) (A1 : Option Addr) (c1 : Nat) (l1 : List Int) (r1 : List Int) (r2 : List Int) (r3 : Int) (r4 : Int) (r5 : Bool) (w0 w : World) (hB : Below w0.heap.size w0 w) (hbk0 : w.heap[gi0]? = some (.cells #[.slice A0_0 l0_0.length c0_0, .int .i64 a0_1, u9000_, u9001_, .int .i64 a0_4, .int .i64 a0_5, .bool a0_6] 113 (0, 0))) (hge0 : w0.heap.size ≤ gi0) (hr0_0 : ∀ W_, Kept w W_ (fun k_ => (P0_2_ k_ ∨ P0_3_ k_) ∨ k_ = gi0) → Kd.C k37 W_ A0_0 l0_0.length l0_0) (hc0_0 : l0_0.length ≤ c0_0) (ho0_2 : Kd.R (Kd.int .i64) 3 w w0.heap.size P0_2_ u9000_ l0_2) (hp0_2_0_3 : ∀ k_, P0_2_ k_ → ¬ P0_3_ k_) (ho0_3 : Kd.R (Kd.int .i64) 3 w w0.heap.size P0_3_ u9001_ l0_3) (hp0_3_0_2 : ∀ k_, P0_3_ k_ → ¬ P0_2_ k_) (hr1 : ∀ W_, Kept w W_ (fun k_ => (P0_2_ k_ ∨ P0_3_ k_) ∨ k_ = gi0) → Kd.C (Kd.int .i64) W_ A1 l1.length l1) (hc1 : l1.length ≤ c1) (h : spec_l20Search_try.f k l0_0 a0_1 l0_2 l0_3 a0_4 a0_5 a0_6 l1 = some (r1, r2, r3, r4, r5)),
  Calls Try.prog 69 #[.pointer (some ⟨gi0, 0, none⟩), .slice A1 l1.length c1] w fun e w' => ∃ v0_ v1_ : Value, e = .returned (.tuple #[]) ∧ Kd.R (Kd.int .i64) 3 w' w0.heap.size (fun k_ => ((P0_2_ k_ ∨ P0_3_ k_) ∨ w.heap.size ≤ k_) ∧ some k_ ≠ (v1_ : Value).ownBlock) v0_ r1 ∧ Kd.R (Kd.int .i64) 3 w' w0.heap.size (fun k_ => ((P0_2_ k_ ∨ P0_3_ k_) ∨ w.heap.size ≤ k_) ∧ some k_ ≠ (v0_ : Value).ownBlock) v1_ r2 ∧ w'.heap[gi0]? = some (.cells #[.slice A0_0 l0_0.length c0_0, .int .i64 a0_1, v0_, v1_, .int .i64 r3, .int .i64 r4, .bool r5] 113 (0, 0)) ∧ Below w0.heap.size w0 w' ∧ Kept w w' (fun k_ => (P0_2_ k_ ∨ P0_3_ k_) ∨ k_ = gi0) := by
 induction k using Nat.strongRecOn with
 | _ k ih =>
 intro gi0 A0_0 c0_0 l0_0 a0_1 P0_2_ u9000_ l0_2 P0_3_ u9001_ l0_3 a0_4 a0_5 a0_6 A1 c1 l1 r1 r2 r3 r4 r5 w0 w hB hbk0 hge0 hr0_0 hc0_0 ho0_2 hp0_2_0_3 ho0_3 hp0_3_0_2 hr1 hc1 h
 cases k with
 | zero => exact absurd h (by simp [spec_l20Search_try.f])
 | succ k =>
 simp only [spec_l20Search_try.f] at h
 have hu28 := Try.underlying28
 obtain ⟨HR0_0, HC0_0, HO0_2, HO0_3, HR1, HC1, BK0, GE0, HK, HW0, HB⟩ := zD11 hr0_0 hc0_0 (show Kd.R (Kd.int .i64) 3 w w0.heap.size (fun k_ => ((P0_2_ k_ ∨ P0_3_ k_) ∨ w.heap.size ≤ k_) ∧ some k_ ≠ (u9001_ : Value).ownBlock) u9000_ l0_2 from zo ho0_2 (fun k_ hk => ⟨(.inl (.inl hk)), fun e_ => hp0_2_0_3 k_ hk (ho0_3.1 k_ e_.symm)⟩)) (show Kd.R (Kd.int .i64) 3 w w0.heap.size (fun k_ => ((P0_2_ k_ ∨ P0_3_ k_) ∨ w.heap.size ≤ k_) ∧ some k_ ≠ (u9000_ : Value).ownBlock) u9001_ l0_3 from zo ho0_3 (fun k_ hk => ⟨(.inl (.inr hk)), fun e_ => hp0_3_0_2 k_ hk (ho0_2.1 k_ e_.symm)⟩)) hr1 hc1 hbk0 hge0 (Kept.refl w (fun k_ => (P0_2_ k_ ∨ P0_3_ k_) ∨ k_ = gi0)) hB.size hB
 clear hr0_0 hc0_0 hr1 hc1 hbk0 hge0 hB
 have H : ((spec_l20Route.f k l0_0 a0_1 l1).bind fun bt302 => (if bt302.2.2.2.2 = true then (if (l1.length : Int) = (l0_0.length : Int) then (if a0_6 = true then (if bt302.2.2.2.1 < a0_5 then (some (bt302.1, bt302.2.1, bt302.2.2.1, bt302.2.2.2.1, true)) else (some (l0_2, l0_3, a0_4, a0_5, a0_6))) else (some (bt302.1, bt302.2.1, bt302.2.2.1, bt302.2.2.2.1, true))) else (spec_l20Search_try.l0 k l1 0 l0_0 a0_1 l0_2 l0_3 a0_4 a0_5 a0_6)) else (some (l0_2, l0_3, a0_4, a0_5, a0_6)))) = some (r1, r2, r3, r4, r5) := h
 clear h
 replace H := Option.bind_eq_some_iff.mp H
 obtain ⟨⟨t302, t305, t308, t309, t310⟩, A30, H⟩ := H
 replace H : (if t310 = true then (if (l1.length : Int) = (l0_0.length : Int) then (if a0_6 = true then (if t309 < a0_5 then (some (t302, t305, t308, t309, true)) else (some (l0_2, l0_3, a0_4, a0_5, a0_6))) else (some (t302, t305, t308, t309, true))) else (spec_l20Search_try.l0 k l1 0 l0_0 a0_1 l0_2 l0_3 a0_4 a0_5 a0_6)) else (some (l0_2, l0_3, a0_4, a0_5, a0_6))) = some (r1, r2, r3, r4, r5) := H
 have A3 := za A30
 clear A30
 by_cases c4 : t310 = true
 rotate_left
 ·replace c4 := Bool.eq_false_iff.mpr c4
  subst c4
  have H1 : (some (l0_2, l0_3, a0_4, a0_5, a0_6)) = some (r1, r2, r3, r4, r5) := by rw [if_neg (show ¬ (false = true) by decide)] at H; exact H
  clear H
  have H := H1
  clear H1
  simp only [Option.some.injEq, Prod.mk.injEq] at H
  obtain ⟨rfl, rfl, rfl, rfl, rfl⟩ := H
  go_enter Try.func69, Try.ntmps69
  try go_wp2
  obtain ⟨n0_, n1_, n2_, n3_, n4_⟩ := zD5 (zh HO0_2.out) (zh HO0_3.out) (ze BK0.out) (Kept.drew HK.out) (zk HB.out)
  clear HO0_2 HO0_3 BK0 HK HB
  have HO0_2 := n0_
  have HO0_3 := n1_
  have BK0 := n2_
  have HK := n3_
  have HB := n4_
  clear n0_ n1_ n2_ n3_ n4_
  refine start_ (n := 16) (S := fun w' => w'.cell? ⟨gi0, 0, none⟩ = some (.slice A0_0 l0_0.length c0_0) ∧ w'.cell? ⟨gi0, 1, none⟩ = some (.int .i64 a0_1) ∧ w'.cell? ⟨gi0, 2, none⟩ = some (u9000_) ∧ w'.cell? ⟨gi0, 3, none⟩ = some (u9001_) ∧ w'.cell? ⟨gi0, 4, none⟩ = some (.int .i64 a0_4) ∧ w'.cell? ⟨gi0, 5, none⟩ = some (.int .i64 a0_5) ∧ w'.cell? ⟨gi0, 6, none⟩ = some (.bool a0_6)) (ds := []) b6A1 zG125 rfl rfl ⟨(zl BK0.out 0).trans rfl, (zl BK0.out 1).trans rfl, (zl BK0.out 2).trans rfl, (zl BK0.out 3).trans rfl, (zl BK0.out 4).trans rfl, (zl BK0.out 5).trans rfl, (zl BK0.out 6).trans rfl⟩ (fun hHeld => ?_); refine with_tabW spec_l20Search_try.tab0 spec_l20Search_try.bits0 (fun HT_ HW_ => ?_)
  generalize w.drew = w86 at HO0_2 HO0_3 BK0 HK HB hHeld ⊢
  refine zP 0 10 b6A2 HT_ ?_
  refine zP 1 11 b6A3 HT_ ?_
  refine zP 2 12 b6A4 HT_ ?_
  refine zP 4 14 b6A5 HT_ ?_
  refine zP 5 15 b6A6 HT_ ?_
  refine zP 6 16 b6A7 HT_ ?_
  refine zP 8 18 b6A8 HT_ ?_
  refine zQ 3 13 b6A9 HT_ HW_ hHeld ?_
  refine zQ 7 17 b6A10 HT_ HW_ hHeld ?_
  refine join_ (σ := Value × Value × Nat) 2 b6A0 (fun s_ => [(19, .tuple #[.agg #[s_.1, s_.2.1, .int .i64 t308, .int .i64 t309], .bool false]), (4, .pointer (some ⟨s_.2.2, 0, none⟩)), (9, .tuple #[.agg #[s_.1, s_.2.1, .int .i64 t308, .int .i64 t309], .bool false]), (20, .agg #[s_.1, s_.2.1, .int .i64 t308, .int .i64 t309]), (21, .bool false)]) (fun s_ w' => (w'.cell? ⟨gi0, 0, none⟩ = some (.slice A0_0 l0_0.length c0_0) ∧ w'.cell? ⟨gi0, 1, none⟩ = some (.int .i64 a0_1) ∧ w'.cell? ⟨gi0, 2, none⟩ = some (u9000_) ∧ w'.cell? ⟨gi0, 3, none⟩ = some (u9001_) ∧ w'.cell? ⟨gi0, 4, none⟩ = some (.int .i64 a0_4) ∧ w'.cell? ⟨gi0, 5, none⟩ = some (.int .i64 a0_5) ∧ w'.cell? ⟨gi0, 6, none⟩ = some (.bool a0_6)) ∧ (Kd.R (Kd.int .i64) 3 w' w0.heap.size (fun k_ => ((P0_2_ k_ ∨ P0_3_ k_) ∨ w.heap.size ≤ k_) ∧ some k_ ≠ (u9001_ : Value).ownBlock ∧ some k_ ≠ (s_.1 : Value).ownBlock ∧ some k_ ≠ (s_.2.1 : Value).ownBlock) u9000_ l0_2) ∧ (Kd.R (Kd.int .i64) 3 w' w0.heap.size (fun k_ => ((P0_2_ k_ ∨ P0_3_ k_) ∨ w.heap.size ≤ k_) ∧ some k_ ≠ (u9000_ : Value).ownBlock ∧ some k_ ≠ (s_.1 : Value).ownBlock ∧ some k_ ≠ (s_.2.1 : Value).ownBlock) u9001_ l0_3) ∧ (Kd.R (Kd.int .i64) 3 w' w0.heap.size (fun k_ => ((P0_2_ k_ ∨ P0_3_ k_) ∨ w.heap.size ≤ k_) ∧ some k_ ≠ (u9000_ : Value).ownBlock ∧ some k_ ≠ (u9001_ : Value).ownBlock ∧ some k_ ≠ (s_.2.1 : Value).ownBlock) s_.1 t302) ∧ (Kd.R (Kd.int .i64) 3 w' w0.heap.size (fun k_ => ((P0_2_ k_ ∨ P0_3_ k_) ∨ w.heap.size ≤ k_) ∧ some k_ ≠ (u9000_ : Value).ownBlock ∧ some k_ ≠ (u9001_ : Value).ownBlock ∧ some k_ ≠ (s_.1 : Value).ownBlock) s_.2.1 t305) ∧ (w'.heap[gi0]? = some (.cells #[.slice A0_0 l0_0.length c0_0, .int .i64 a0_1, u9000_, u9001_, .int .i64 a0_4, .int .i64 a0_5, .bool a0_6] 113 (0, 0))) ∧ (w'.heap[s_.2.2]? = some (.cells #[.slice none 0 0, .slice none 0 0, .int .i64 0, .int .i64 0] 28 (0, 0))) ∧ (w.heap.size ≤ s_.2.2) ∧ (w0.heap.size ≤ s_.2.2) ∧ (gi0 ≠ s_.2.2) ∧ (s_.2.2 ≠ gi0) ∧ (Kept w w' (fun k_ => (P0_2_ k_ ∨ P0_3_ k_) ∨ k_ = gi0)) ∧ (Below w0.heap.size w0 w')) ?_ ?_
  rotate_left
  ·intro hCont
   refine two_ (i := 9) (j := 13) (Ni := some 19) (Nj := some 4) b6A11 b6A12 rfl rfl rfl rfl (two_of HT_.out zG125) zG126 zG126 (fun K hK => ?_) (fun K hK => ?_)
   ·skip
    refine goes_ Try.func123 zG125 rfl #[.slice A0_0 l0_0.length c0_0, .int .i64 a0_1, .slice A1 l1.length c1] (by rfl) rfl rfl zG87 ?_
    with_reducible refine (spec_l20Route.calls k _ _ l0_0 a0_1 _ _ l1 t302 t305 t308 t309 false _ ?side1 ?side2 ?side3 ?side4 A3.out).mono ?_
    (case side1 => exact zaj HR0_0.out zG84)
    (case side2 => exact HC0_0.out)
    (case side3 => exact zaj HR1.out zG84)
    (case side4 => exact HC1.out)
    rintro e w87 ⟨v303, v306, rfl, ho0, ho1, hb⟩
    refine ⟨_, rfl, ?_⟩
    obtain ⟨n0_, n1_, n2_, n3_, n4_, n5_, n6_⟩ := zD7 (zo (zaa (zaa (zaf zG117 hb) (zy ho0)) (zy ho1)) (fun _ h_ => h_.1)) (zo (zaa (zaa (zaf zG118 hb) (zy ho0)) (zy ho1)) (fun _ h_ => h_.1)) (zae (zz (zz (zap (M := fun k_ => ((P0_2_ k_ ∨ P0_3_ k_) ∨ w.heap.size ≤ k_)) ho0 zG78 (fun k_ h_ => .inr h_)) (zab zG117)) (zab zG118)) (zt zG94)) (zae (zz (zz (zap (M := fun k_ => ((P0_2_ k_ ∨ P0_3_ k_) ∨ w.heap.size ≤ k_)) ho1 zG78 (fun k_ h_ => .inr h_)) (zab zG117)) (zab zG118)) (zt zG94)) (zs (g := gi0) (o := .cells #[.slice A0_0 l0_0.length c0_0, .int .i64 a0_1, u9000_, u9001_, .int .i64 a0_4, .int .i64 a0_5, .bool a0_6] 113 (0, 0)) zG106 hb) (Kept.below (S := (fun k_ => (P0_2_ k_ ∨ P0_3_ k_) ∨ k_ = gi0)) zG84 hb) (zv zG94 hb)
    clear HO0_2 HO0_3 BK0 HK HB
    have HO0_2 := n0_
    have HO0_3 := n1_
    have HO304 := n2_
    have HO307 := n3_
    have BK0 := n4_
    have HK := n5_
    have HB := n6_
    clear n0_ n1_ n2_ n3_ n4_ n5_ n6_
    (try clear hb)
    (try clear hb2)
    (try clear hk)
    (try clear hi)
    (try clear ho0)
    (try clear ho1)
    refine hK.out _ _ ⟨(zl BK0.out 0).trans rfl, (zl BK0.out 1).trans rfl, (zl BK0.out 2).trans rfl, (zl BK0.out 3).trans rfl, (zl BK0.out 4).trans rfl, (zl BK0.out 5).trans rfl, (zl BK0.out 6).trans rfl⟩ (fun hHeld => ?_)
    clear hK K
    refine norm_ (a' := ?_) ?_ ?_
    rotate_left
    ·show Act.put _ (some 19) _ = _
     simp only [Act.put, List.setIfInBounds_toArray, List.set_cons_zero, List.set_cons_succ, i64_w, i32_w]
     rfl
    refine zP 10 9 b6A13 HT_ ?_
    refine zP 11 20 b6A14 HT_ ?_
    refine zP 12 21 b6A15 HT_ ?_
    refine one_ (i := 13) (N := some 4) b6A0 rfl rfl (one_of HT_.out zG125) zG126 (fun K hK => ?_)
    refine box_step ?hg (N := 4) ?hd (cs := #[.slice none 0 0, .slice none 0 0, .int .i64 0, .int .i64 0]) (t := 28) ?hr ?_; (case hd => rfl); (case hg => rfl); (case hr => exact zH103)
    intro gb311 hg w88 hbox hb
    obtain ⟨n0_, n1_, n2_, n3_, n4_, n5_, n6_, n7_, n8_, n9_, n10_, n11_⟩ := zD12 (zp zG117 hb) (zp zG118 hb) (zp zK203 hb) (zp zK204 hb) (zs (g := gi0) (o := .cells #[.slice A0_0 l0_0.length c0_0, .int .i64 a0_1, u9000_, u9001_, .int .i64 a0_4, .int .i64 a0_5, .bool a0_6] 113 (0, 0)) zG106 hb) (Kept.below (S := (fun k_ => (P0_2_ k_ ∨ P0_3_ k_) ∨ k_ = gi0)) zG84 hb) (zv zG94 hb) (hbox) ((by rw [hg]; exact zG78 : w.heap.size ≤ gb311)) ((by rw [hg]; exact (zt zG94) : w0.heap.size ≤ gb311)) ((by rw [hg]; exact Nat.ne_of_lt (zac (g := gi0) (o := .cells #[.slice A0_0 l0_0.length c0_0, .int .i64 a0_1, u9000_, u9001_, .int .i64 a0_4, .int .i64 a0_5, .bool a0_6] 113 (0, 0)) zG106) : gi0 ≠ gb311)) ((by rw [hg]; exact Nat.ne_of_gt (zac (g := gi0) (o := .cells #[.slice A0_0 l0_0.length c0_0, .int .i64 a0_1, u9000_, u9001_, .int .i64 a0_4, .int .i64 a0_5, .bool a0_6] 113 (0, 0)) zG106) : gb311 ≠ gi0))
    clear HO0_2 HO0_3 HO304 HO307 BK0 HK HB
    have HO0_2 := n0_
    have HO0_3 := n1_
    have HO304 := n2_
    have HO307 := n3_
    have BK0 := n4_
    have HK := n5_
    have HB := n6_
    have BK311 := n7_
    have GW311 := n8_
    have GE311 := n9_
    have NB0_311 := n10_
    have NB311_0 := n11_
    clear n0_ n1_ n2_ n3_ n4_ n5_ n6_ n7_ n8_ n9_ n10_ n11_
    clear hb hbox hg
    refine hK.out _ _ ⟨(zl BK0.out 0).trans rfl, (zl BK0.out 1).trans rfl, (zl BK0.out 2).trans rfl, (zl BK0.out 3).trans rfl, (zl BK0.out 4).trans rfl, (zl BK0.out 5).trans rfl, (zl BK0.out 6).trans rfl⟩ (fun hHeld => ?_)
    clear hK K
    refine norm_ (a' := ?_) ?_ ?_
    rotate_left
    ·show Act.put _ (some 4) _ = _
     simp only [Act.put, List.setIfInBounds_toArray, List.set_cons_zero, List.set_cons_succ, i64_w, i32_w]
     rfl
    exact norm_ zK190 (hCont (v303, v306, gb311) _ ⟨hHeld, zG88, zG89, zG90, zG91, zG106, zG96, GW311.out, GE311.out, NB0_311.out, NB311_0.out, zG80, zG86⟩)
   ·skip
    refine box_step ?hg (N := 4) ?hd (cs := #[.slice none 0 0, .slice none 0 0, .int .i64 0, .int .i64 0]) (t := 28) ?hr ?_; (case hd => rfl); (case hg => rfl); (case hr => exact zH103)
    intro gb311 hg w87 hbox hb
    obtain ⟨n0_, n1_, n2_, n3_, n4_, n5_, n6_, n7_, n8_, n9_⟩ := zD10 (zp zG117 hb) (zp zG118 hb) (zs (g := gi0) (o := .cells #[.slice A0_0 l0_0.length c0_0, .int .i64 a0_1, u9000_, u9001_, .int .i64 a0_4, .int .i64 a0_5, .bool a0_6] 113 (0, 0)) zG106 hb) (Kept.below (S := (fun k_ => (P0_2_ k_ ∨ P0_3_ k_) ∨ k_ = gi0)) zG84 hb) (zv zG94 hb) (hbox) ((by rw [hg]; exact zG78 : w.heap.size ≤ gb311)) ((by rw [hg]; exact (zt zG94) : w0.heap.size ≤ gb311)) ((by rw [hg]; exact Nat.ne_of_lt (zac (g := gi0) (o := .cells #[.slice A0_0 l0_0.length c0_0, .int .i64 a0_1, u9000_, u9001_, .int .i64 a0_4, .int .i64 a0_5, .bool a0_6] 113 (0, 0)) zG106) : gi0 ≠ gb311)) ((by rw [hg]; exact Nat.ne_of_gt (zac (g := gi0) (o := .cells #[.slice A0_0 l0_0.length c0_0, .int .i64 a0_1, u9000_, u9001_, .int .i64 a0_4, .int .i64 a0_5, .bool a0_6] 113 (0, 0)) zG106) : gb311 ≠ gi0))
    clear HO0_2 HO0_3 BK0 HK HB
    have HO0_2 := n0_
    have HO0_3 := n1_
    have BK0 := n2_
    have HK := n3_
    have HB := n4_
    have BK311 := n5_
    have GW311 := n6_
    have GE311 := n7_
    have NB0_311 := n8_
    have NB311_0 := n9_
    clear n0_ n1_ n2_ n3_ n4_ n5_ n6_ n7_ n8_ n9_
    clear hb hbox hg
    refine hK.out _ _ ⟨(zl BK0.out 0).trans rfl, (zl BK0.out 1).trans rfl, (zl BK0.out 2).trans rfl, (zl BK0.out 3).trans rfl, (zl BK0.out 4).trans rfl, (zl BK0.out 5).trans rfl, (zl BK0.out 6).trans rfl⟩ (fun hHeld => ?_)
    clear hK K
    refine norm_ (a' := ?_) ?_ ?_
    rotate_left
    ·show Act.put _ (some 4) _ = _
     simp only [Act.put, List.setIfInBounds_toArray, List.set_cons_zero, List.set_cons_succ, i64_w, i32_w]
     rfl
    refine one_ (i := 9) (N := some 19) b6A16 rfl rfl (one_of HT_.out zG125) zG126 (fun K hK => ?_)
    refine goes_ Try.func123 zG125 rfl #[.slice A0_0 l0_0.length c0_0, .int .i64 a0_1, .slice A1 l1.length c1] (by rfl) rfl rfl zG87 ?_
    with_reducible refine (spec_l20Route.calls k _ _ l0_0 a0_1 _ _ l1 t302 t305 t308 t309 false _ ?side1 ?side2 ?side3 ?side4 A3.out).mono ?_
    (case side1 => exact zaj HR0_0.out zG80)
    (case side2 => exact HC0_0.out)
    (case side3 => exact zaj HR1.out zG80)
    (case side4 => exact HC1.out)
    rintro e w88 ⟨v303, v306, rfl, ho0, ho1, hb⟩
    refine ⟨_, rfl, ?_⟩
    obtain ⟨n0_, n1_, n2_, n3_, n4_, n5_, n6_, n7_⟩ := zD8 (zo (zaa (zaa (zaf zG117 hb) (zy ho0)) (zy ho1)) (fun _ h_ => h_.1)) (zo (zaa (zaa (zaf zG118 hb) (zy ho0)) (zy ho1)) (fun _ h_ => h_.1)) (zae (zz (zz (zap (M := fun k_ => ((P0_2_ k_ ∨ P0_3_ k_) ∨ w.heap.size ≤ k_)) ho0 zG77 (fun k_ h_ => .inr h_)) (zab zG117)) (zab zG118)) (zt zG86)) (zae (zz (zz (zap (M := fun k_ => ((P0_2_ k_ ∨ P0_3_ k_) ∨ w.heap.size ≤ k_)) ho1 zG77 (fun k_ h_ => .inr h_)) (zab zG117)) (zab zG118)) (zt zG86)) (zs (g := gi0) (o := .cells #[.slice A0_0 l0_0.length c0_0, .int .i64 a0_1, u9000_, u9001_, .int .i64 a0_4, .int .i64 a0_5, .bool a0_6] 113 (0, 0)) zG106 hb) (zs (g := gb311) (o := .cells #[.slice none 0 0, .slice none 0 0, .int .i64 0, .int .i64 0] 28 (0, 0)) zG96 hb) (Kept.below (S := (fun k_ => (P0_2_ k_ ∨ P0_3_ k_) ∨ k_ = gi0)) zG80 hb) (zv zG86 hb)
    clear HO0_2 HO0_3 BK0 BK311 HK HB
    have HO0_2 := n0_
    have HO0_3 := n1_
    have HO304 := n2_
    have HO307 := n3_
    have BK0 := n4_
    have BK311 := n5_
    have HK := n6_
    have HB := n7_
    clear n0_ n1_ n2_ n3_ n4_ n5_ n6_ n7_
    (try clear hb)
    (try clear hb2)
    (try clear hk)
    (try clear hi)
    (try clear ho0)
    (try clear ho1)
    refine hK.out _ _ ⟨(zl BK0.out 0).trans rfl, (zl BK0.out 1).trans rfl, (zl BK0.out 2).trans rfl, (zl BK0.out 3).trans rfl, (zl BK0.out 4).trans rfl, (zl BK0.out 5).trans rfl, (zl BK0.out 6).trans rfl⟩ (fun hHeld => ?_)
    clear hK K
    refine norm_ (a' := ?_) ?_ ?_
    rotate_left
    ·show Act.put _ (some 19) _ = _
     simp only [Act.put, List.setIfInBounds_toArray, List.set_cons_zero, List.set_cons_succ, i64_w, i32_w]
     rfl
    refine zP 10 9 b6A17 HT_ ?_
    refine zP 11 20 b6A18 HT_ ?_
    refine zP 12 21 b6A0 HT_ ?_
    exact norm_ zK190 (hCont (v303, v306, gb311) _ ⟨hHeld, zG88, zG89, zG90, zG91, zG106, zG96, GW311.out, GE311.out, NB0_311.out, NB311_0.out, zG80, zG86⟩)
  rintro ⟨v303, v306, gb311⟩ w89 ⟨hS_, h0_, h1_, h2_, h3_, h4_, h5_, h6_, h7_, h8_, h9_, h10_, h11_⟩
  have n0_ : Aside0 (Kd.R (Kd.int .i64) 3 w89 w0.heap.size (fun k_ => ((P0_2_ k_ ∨ P0_3_ k_) ∨ w.heap.size ≤ k_) ∧ some k_ ≠ (u9001_ : Value).ownBlock ∧ some k_ ≠ (v303 : Value).ownBlock ∧ some k_ ≠ (v306 : Value).ownBlock) u9000_ l0_2) := ⟨h0_⟩
  have n1_ : Aside0 (Kd.R (Kd.int .i64) 3 w89 w0.heap.size (fun k_ => ((P0_2_ k_ ∨ P0_3_ k_) ∨ w.heap.size ≤ k_) ∧ some k_ ≠ (u9000_ : Value).ownBlock ∧ some k_ ≠ (v303 : Value).ownBlock ∧ some k_ ≠ (v306 : Value).ownBlock) u9001_ l0_3) := ⟨h1_⟩
  have n2_ : Aside0 (Kd.R (Kd.int .i64) 3 w89 w0.heap.size (fun k_ => ((P0_2_ k_ ∨ P0_3_ k_) ∨ w.heap.size ≤ k_) ∧ some k_ ≠ (u9000_ : Value).ownBlock ∧ some k_ ≠ (u9001_ : Value).ownBlock ∧ some k_ ≠ (v306 : Value).ownBlock) v303 t302) := ⟨h2_⟩
  have n3_ : Aside0 (Kd.R (Kd.int .i64) 3 w89 w0.heap.size (fun k_ => ((P0_2_ k_ ∨ P0_3_ k_) ∨ w.heap.size ≤ k_) ∧ some k_ ≠ (u9000_ : Value).ownBlock ∧ some k_ ≠ (u9001_ : Value).ownBlock ∧ some k_ ≠ (v303 : Value).ownBlock) v306 t305) := ⟨h3_⟩
  have n4_ : Aside0 (w89.heap[gi0]? = some (.cells #[.slice A0_0 l0_0.length c0_0, .int .i64 a0_1, u9000_, u9001_, .int .i64 a0_4, .int .i64 a0_5, .bool a0_6] 113 (0, 0))) := ⟨h4_⟩
  have n5_ : Aside0 (w89.heap[gb311]? = some (.cells #[.slice none 0 0, .slice none 0 0, .int .i64 0, .int .i64 0] 28 (0, 0))) := ⟨h5_⟩
  have n6_ : Aside0 (w.heap.size ≤ gb311) := ⟨h6_⟩
  have n7_ : Aside0 (w0.heap.size ≤ gb311) := ⟨h7_⟩
  have n8_ : Aside0 (gi0 ≠ gb311) := ⟨h8_⟩
  have n9_ : Aside0 (gb311 ≠ gi0) := ⟨h9_⟩
  have n10_ : Aside0 (Kept w w89 (fun k_ => (P0_2_ k_ ∨ P0_3_ k_) ∨ k_ = gi0)) := ⟨h10_⟩
  have n11_ : Aside0 (Below w0.heap.size w0 w89) := ⟨h11_⟩
  clear HO0_2
  clear HO0_3
  clear BK0
  clear HK
  clear HB
  clear h0_ h1_ h2_ h3_ h4_ h5_ h6_ h7_ h8_ h9_ h10_ h11_
  have HO0_2 := n0_
  have HO0_3 := n1_
  have HO304 := n2_
  have HO307 := n3_
  have BK0 := n4_
  have BK311 := n5_
  have GW311 := n6_
  have GE311 := n7_
  have NB0_311 := n8_
  have NB311_0 := n9_
  have HK := n10_
  have HB := n11_
  clear n0_ n1_ n2_ n3_ n4_ n5_ n6_ n7_ n8_ n9_ n10_ n11_
  have hHeld : w89.cell? ⟨gi0, 0, none⟩ = some (.slice A0_0 l0_0.length c0_0) ∧ w89.cell? ⟨gi0, 1, none⟩ = some (.int .i64 a0_1) ∧ w89.cell? ⟨gi0, 2, none⟩ = some (u9000_) ∧ w89.cell? ⟨gi0, 3, none⟩ = some (u9001_) ∧ w89.cell? ⟨gi0, 4, none⟩ = some (.int .i64 a0_4) ∧ w89.cell? ⟨gi0, 5, none⟩ = some (.int .i64 a0_5) ∧ w89.cell? ⟨gi0, 6, none⟩ = some (.bool a0_6) := hS_
  obtain ⟨Ao90, co90, eo90⟩ := zad HO304.out
  (first | subst eo90 | (injection eo90 with f1_ f2_ f3_; have f4_ := f1_.symm; have f5_ := f3_.symm; clear f1_ f2_ f3_; subst f4_; subst f5_))
  obtain ⟨Ao92, co92, eo92⟩ := zad HO307.out
  (first | subst eo92 | (injection eo92 with f1_ f2_ f3_; have f4_ := f1_.symm; have f5_ := f3_.symm; clear f1_ f2_ f3_; subst f4_; subst f5_))
  refine norm_ (a' := ?_) ?_ ?_
  rotate_left
  ·simp only [putAll, Act.put, List.setIfInBounds_toArray, List.set_cons_zero, List.set_cons_succ]
   rfl
  refine one_ (i := 14) (N := none) b6A19 rfl rfl (one_of HT_.out zG125) zG126 (fun K hK => ?_)
  have hs91 : w89.cell? ⟨gb311, 0, none⟩ = some (.slice none 0 0) := (zl BK311.out 0).trans rfl
  have hfs91 := zn BK311.out 0
  have hns91_0 := NB0_311.out
  have hms91_0 := NB311_0.out
  have hs93 : w89.cell? ⟨gb311, 1, none⟩ = some (.slice none 0 0) := (zl BK311.out 1).trans rfl
  have hfs93 := zn BK311.out 1
  have hns93_0 := NB0_311.out
  have hms93_0 := NB311_0.out
  have hs94 : w89.cell? ⟨gb311, 2, none⟩ = some (.int .i64 0) := (zl BK311.out 2).trans rfl
  have hfs94 := zn BK311.out 2
  have hns94_0 := NB0_311.out
  have hms94_0 := NB311_0.out
  have hs95 : w89.cell? ⟨gb311, 3, none⟩ = some (.int .i64 0) := (zl BK311.out 3).trans rfl
  have hfs95 := zn BK311.out 3
  have hns95_0 := NB0_311.out
  have hms95_0 := NB311_0.out
  refine skip_ (w1 := ?_) (by rfl) rfl ?_ ?_
  rotate_left
  ·go_simp
   rfl
  refine hK.out _ _ ⟨((cell_far (p := ⟨gb311, _, none⟩) NB0_311.out _).trans (((cell_far (p := ⟨gb311, _, none⟩) NB0_311.out _).trans (((cell_far (p := ⟨gb311, _, none⟩) NB0_311.out _).trans (((cell_far (p := ⟨gb311, _, none⟩) NB0_311.out _).trans (hHeld.1)))))))), ((cell_far (p := ⟨gb311, _, none⟩) NB0_311.out _).trans (((cell_far (p := ⟨gb311, _, none⟩) NB0_311.out _).trans (((cell_far (p := ⟨gb311, _, none⟩) NB0_311.out _).trans (((cell_far (p := ⟨gb311, _, none⟩) NB0_311.out _).trans (hHeld.2.1)))))))), ((cell_far (p := ⟨gb311, _, none⟩) NB0_311.out _).trans (((cell_far (p := ⟨gb311, _, none⟩) NB0_311.out _).trans (((cell_far (p := ⟨gb311, _, none⟩) NB0_311.out _).trans (((cell_far (p := ⟨gb311, _, none⟩) NB0_311.out _).trans (hHeld.2.2.1)))))))), ((cell_far (p := ⟨gb311, _, none⟩) NB0_311.out _).trans (((cell_far (p := ⟨gb311, _, none⟩) NB0_311.out _).trans (((cell_far (p := ⟨gb311, _, none⟩) NB0_311.out _).trans (((cell_far (p := ⟨gb311, _, none⟩) NB0_311.out _).trans (hHeld.2.2.2.1)))))))), ((cell_far (p := ⟨gb311, _, none⟩) NB0_311.out _).trans (((cell_far (p := ⟨gb311, _, none⟩) NB0_311.out _).trans (((cell_far (p := ⟨gb311, _, none⟩) NB0_311.out _).trans (((cell_far (p := ⟨gb311, _, none⟩) NB0_311.out _).trans (hHeld.2.2.2.2.1)))))))), ((cell_far (p := ⟨gb311, _, none⟩) NB0_311.out _).trans (((cell_far (p := ⟨gb311, _, none⟩) NB0_311.out _).trans (((cell_far (p := ⟨gb311, _, none⟩) NB0_311.out _).trans (((cell_far (p := ⟨gb311, _, none⟩) NB0_311.out _).trans (hHeld.2.2.2.2.2.1)))))))), ((cell_far (p := ⟨gb311, _, none⟩) NB0_311.out _).trans (((cell_far (p := ⟨gb311, _, none⟩) NB0_311.out _).trans (((cell_far (p := ⟨gb311, _, none⟩) NB0_311.out _).trans (((cell_far (p := ⟨gb311, _, none⟩) NB0_311.out _).trans (hHeld.2.2.2.2.2.2))))))))⟩ (fun hHeld => ?_)
  clear hK K
  refine zP 15 5 b6A20 HT_ ?_
  refine done_ (done_of HT_.out zG125) ?_
  try go_wp2
  first | go_end0 | ((try simp only [Exit.inBlock, Exit.then]); refine bodyPost_ret (results_none rfl _ _ _) rfl ?_)
  exact ⟨_, _, zH92, by (with_reducible repeat (first | apply zf | apply zg | apply zh)); exact zo (zd (p := ⟨gb311, 3, none⟩) (zd (p := ⟨gb311, 2, none⟩) (zd (p := ⟨gb311, 1, none⟩) (zd (p := ⟨gb311, 0, none⟩) (zq HO0_2.out BK311.out zG126) (fun _ hk => hk.2) (.slice Ao90 t302.length co90)) (fun _ hk => hk.2) (.slice Ao92 t305.length co92)) (fun _ hk => hk.2) (.int .i64 t308)) (fun _ hk => hk.2) (.int .i64 t309)) (fun _ hk => ⟨hk.1.1, hk.1.2.1⟩), by (with_reducible repeat (first | apply zf | apply zg | apply zh)); exact zo (zd (p := ⟨gb311, 3, none⟩) (zd (p := ⟨gb311, 2, none⟩) (zd (p := ⟨gb311, 1, none⟩) (zd (p := ⟨gb311, 0, none⟩) (zq HO0_3.out BK311.out zG126) (fun _ hk => hk.2) (.slice Ao90 t302.length co90)) (fun _ hk => hk.2) (.slice Ao92 t305.length co92)) (fun _ hk => hk.2) (.int .i64 t308)) (fun _ hk => hk.2) (.int .i64 t309)) (fun _ hk => ⟨hk.1.1, hk.1.2.1⟩), (by (with_reducible repeat (first | refine zc ?_ _ | refine ze ?_ | refine zb ?_ _)); refine zr ?_ NB0_311.out _; (with_reducible repeat (first | refine zc ?_ _ | refine ze ?_ | refine zb ?_ _)); refine zr ?_ NB0_311.out _; (with_reducible repeat (first | refine zc ?_ _ | refine ze ?_ | refine zb ?_ _)); refine zr ?_ NB0_311.out _; (with_reducible repeat (first | refine zc ?_ _ | refine ze ?_ | refine zb ?_ _)); refine zr ?_ NB0_311.out _; (with_reducible repeat (first | refine zc ?_ _ | refine ze ?_ | refine zb ?_ _)); exact BK0.out), zH54, zH33⟩

 subst c4
 have H1 : (if (l1.length : Int) = (l0_0.length : Int) then (if a0_6 = true then (if t309 < a0_5 then (some (t302, t305, t308, t309, true)) else (some (l0_2, l0_3, a0_4, a0_5, a0_6))) else (some (t302, t305, t308, t309, true))) else (spec_l20Search_try.l0 k l1 0 l0_0 a0_1 l0_2 l0_3 a0_4 a0_5 a0_6)) = some (r1, r2, r3, r4, r5) := by rw [if_pos rfl] at H; exact H
 clear H
 have H := H1
 clear H1
 by_cases c5 : (l1.length : Int) = (l0_0.length : Int)
 rotate_left
 ·rw [if_neg c5] at H
  have c5b0 : ((l1.length : Int) == (l0_0.length : Int)) = false := beq_eq_false_iff_ne.mpr c5
  have c5b1 : ((l1.length : Int) != (l0_0.length : Int)) = true := bne_iff_ne.mpr c5
  have c5b2 : (l1.length == l0_0.length) = false := by first | simpa using c5 | (simp at c5 ⊢; omega)
  have H' := za H
  clear H
  go_enter Try.func69, Try.ntmps69
  try go_wp2
  obtain ⟨n0_, n1_, n2_, n3_, n4_⟩ := zD5 (zh HO0_2.out) (zh HO0_3.out) (ze BK0.out) (Kept.drew HK.out) (zk HB.out)
  clear HO0_2 HO0_3 BK0 HK HB
  have HO0_2 := n0_
  have HO0_3 := n1_
  have BK0 := n2_
  have HK := n3_
  have HB := n4_
  clear n0_ n1_ n2_ n3_ n4_
  refine start_ (n := 16) (S := fun w' => w'.cell? ⟨gi0, 0, none⟩ = some (.slice A0_0 l0_0.length c0_0) ∧ w'.cell? ⟨gi0, 1, none⟩ = some (.int .i64 a0_1) ∧ w'.cell? ⟨gi0, 2, none⟩ = some (u9000_) ∧ w'.cell? ⟨gi0, 3, none⟩ = some (u9001_) ∧ w'.cell? ⟨gi0, 4, none⟩ = some (.int .i64 a0_4) ∧ w'.cell? ⟨gi0, 5, none⟩ = some (.int .i64 a0_5) ∧ w'.cell? ⟨gi0, 6, none⟩ = some (.bool a0_6)) (ds := []) b6A1 zG125 rfl rfl ⟨(zl BK0.out 0).trans rfl, (zl BK0.out 1).trans rfl, (zl BK0.out 2).trans rfl, (zl BK0.out 3).trans rfl, (zl BK0.out 4).trans rfl, (zl BK0.out 5).trans rfl, (zl BK0.out 6).trans rfl⟩ (fun hHeld => ?_); refine with_tabW spec_l20Search_try.tab0 spec_l20Search_try.bits0 (fun HT_ HW_ => ?_)
  generalize w.drew = w54 at HO0_2 HO0_3 BK0 HK HB hHeld ⊢
  refine zP 0 10 b6A2 HT_ ?_
  refine zP 1 11 b6A3 HT_ ?_
  refine zP 2 12 b6A4 HT_ ?_
  refine zP 4 14 b6A5 HT_ ?_
  refine zP 5 15 b6A6 HT_ ?_
  refine zP 6 16 b6A7 HT_ ?_
  refine zP 8 18 b6A8 HT_ ?_
  refine zQ 3 13 b6A9 HT_ HW_ hHeld ?_
  refine zQ 7 17 b6A10 HT_ HW_ hHeld ?_
  refine join_ (σ := Value × Value × Nat) 2 b6A0 (fun s_ => [(19, .tuple #[.agg #[s_.1, s_.2.1, .int .i64 t308, .int .i64 t309], .bool true]), (4, .pointer (some ⟨s_.2.2, 0, none⟩)), (9, .tuple #[.agg #[s_.1, s_.2.1, .int .i64 t308, .int .i64 t309], .bool true]), (20, .agg #[s_.1, s_.2.1, .int .i64 t308, .int .i64 t309]), (21, .bool true)]) (fun s_ w' => (w'.cell? ⟨gi0, 0, none⟩ = some (.slice A0_0 l0_0.length c0_0) ∧ w'.cell? ⟨gi0, 1, none⟩ = some (.int .i64 a0_1) ∧ w'.cell? ⟨gi0, 2, none⟩ = some (u9000_) ∧ w'.cell? ⟨gi0, 3, none⟩ = some (u9001_) ∧ w'.cell? ⟨gi0, 4, none⟩ = some (.int .i64 a0_4) ∧ w'.cell? ⟨gi0, 5, none⟩ = some (.int .i64 a0_5) ∧ w'.cell? ⟨gi0, 6, none⟩ = some (.bool a0_6)) ∧ (Kd.R (Kd.int .i64) 3 w' w0.heap.size (fun k_ => ((P0_2_ k_ ∨ P0_3_ k_) ∨ w.heap.size ≤ k_) ∧ some k_ ≠ (u9001_ : Value).ownBlock ∧ some k_ ≠ (s_.1 : Value).ownBlock ∧ some k_ ≠ (s_.2.1 : Value).ownBlock) u9000_ l0_2) ∧ (Kd.R (Kd.int .i64) 3 w' w0.heap.size (fun k_ => ((P0_2_ k_ ∨ P0_3_ k_) ∨ w.heap.size ≤ k_) ∧ some k_ ≠ (u9000_ : Value).ownBlock ∧ some k_ ≠ (s_.1 : Value).ownBlock ∧ some k_ ≠ (s_.2.1 : Value).ownBlock) u9001_ l0_3) ∧ (Kd.R (Kd.int .i64) 3 w' w0.heap.size (fun k_ => ((P0_2_ k_ ∨ P0_3_ k_) ∨ w.heap.size ≤ k_) ∧ some k_ ≠ (u9000_ : Value).ownBlock ∧ some k_ ≠ (u9001_ : Value).ownBlock ∧ some k_ ≠ (s_.2.1 : Value).ownBlock) s_.1 t302) ∧ (Kd.R (Kd.int .i64) 3 w' w0.heap.size (fun k_ => ((P0_2_ k_ ∨ P0_3_ k_) ∨ w.heap.size ≤ k_) ∧ some k_ ≠ (u9000_ : Value).ownBlock ∧ some k_ ≠ (u9001_ : Value).ownBlock ∧ some k_ ≠ (s_.1 : Value).ownBlock) s_.2.1 t305) ∧ (w'.heap[gi0]? = some (.cells #[.slice A0_0 l0_0.length c0_0, .int .i64 a0_1, u9000_, u9001_, .int .i64 a0_4, .int .i64 a0_5, .bool a0_6] 113 (0, 0))) ∧ (w'.heap[s_.2.2]? = some (.cells #[.slice none 0 0, .slice none 0 0, .int .i64 0, .int .i64 0] 28 (0, 0))) ∧ (w.heap.size ≤ s_.2.2) ∧ (w0.heap.size ≤ s_.2.2) ∧ (gi0 ≠ s_.2.2) ∧ (s_.2.2 ≠ gi0) ∧ (Kept w w' (fun k_ => (P0_2_ k_ ∨ P0_3_ k_) ∨ k_ = gi0)) ∧ (Below w0.heap.size w0 w')) ?_ ?_
  rotate_left
  ·intro hCont
   refine two_ (i := 9) (j := 13) (Ni := some 19) (Nj := some 4) b6A11 b6A12 rfl rfl rfl rfl (two_of HT_.out zG125) zG126 zG126 (fun K hK => ?_) (fun K hK => ?_)
   ·skip
    refine goes_ Try.func123 zG125 rfl #[.slice A0_0 l0_0.length c0_0, .int .i64 a0_1, .slice A1 l1.length c1] (by rfl) rfl rfl zG87 ?_
    with_reducible refine (spec_l20Route.calls k _ _ l0_0 a0_1 _ _ l1 t302 t305 t308 t309 true _ ?side1 ?side2 ?side3 ?side4 A3.out).mono ?_
    (case side1 => exact zaj HR0_0.out zG84)
    (case side2 => exact HC0_0.out)
    (case side3 => exact zaj HR1.out zG84)
    (case side4 => exact HC1.out)
    rintro e w55 ⟨v303, v306, rfl, ho0, ho1, hb⟩
    refine ⟨_, rfl, ?_⟩
    obtain ⟨n0_, n1_, n2_, n3_, n4_, n5_, n6_⟩ := zD7 (zo (zaa (zaa (zaf zG117 hb) (zy ho0)) (zy ho1)) (fun _ h_ => h_.1)) (zo (zaa (zaa (zaf zG118 hb) (zy ho0)) (zy ho1)) (fun _ h_ => h_.1)) (zae (zz (zz (zap (M := fun k_ => ((P0_2_ k_ ∨ P0_3_ k_) ∨ w.heap.size ≤ k_)) ho0 zG78 (fun k_ h_ => .inr h_)) (zab zG117)) (zab zG118)) (zt zG94)) (zae (zz (zz (zap (M := fun k_ => ((P0_2_ k_ ∨ P0_3_ k_) ∨ w.heap.size ≤ k_)) ho1 zG78 (fun k_ h_ => .inr h_)) (zab zG117)) (zab zG118)) (zt zG94)) (zs (g := gi0) (o := .cells #[.slice A0_0 l0_0.length c0_0, .int .i64 a0_1, u9000_, u9001_, .int .i64 a0_4, .int .i64 a0_5, .bool a0_6] 113 (0, 0)) zG106 hb) (Kept.below (S := (fun k_ => (P0_2_ k_ ∨ P0_3_ k_) ∨ k_ = gi0)) zG84 hb) (zv zG94 hb)
    clear HO0_2 HO0_3 BK0 HK HB
    have HO0_2 := n0_
    have HO0_3 := n1_
    have HO304 := n2_
    have HO307 := n3_
    have BK0 := n4_
    have HK := n5_
    have HB := n6_
    clear n0_ n1_ n2_ n3_ n4_ n5_ n6_
    (try clear hb)
    (try clear hb2)
    (try clear hk)
    (try clear hi)
    (try clear ho0)
    (try clear ho1)
    refine hK.out _ _ ⟨(zl BK0.out 0).trans rfl, (zl BK0.out 1).trans rfl, (zl BK0.out 2).trans rfl, (zl BK0.out 3).trans rfl, (zl BK0.out 4).trans rfl, (zl BK0.out 5).trans rfl, (zl BK0.out 6).trans rfl⟩ (fun hHeld => ?_)
    clear hK K
    refine norm_ (a' := ?_) ?_ ?_
    rotate_left
    ·show Act.put _ (some 19) _ = _
     simp only [Act.put, List.setIfInBounds_toArray, List.set_cons_zero, List.set_cons_succ, i64_w, i32_w]
     rfl
    refine zP 10 9 b6A13 HT_ ?_
    refine zP 11 20 b6A14 HT_ ?_
    refine zP 12 21 b6A15 HT_ ?_
    refine one_ (i := 13) (N := some 4) b6A0 rfl rfl (one_of HT_.out zG125) zG126 (fun K hK => ?_)
    refine box_step ?hg (N := 4) ?hd (cs := #[.slice none 0 0, .slice none 0 0, .int .i64 0, .int .i64 0]) (t := 28) ?hr ?_; (case hd => rfl); (case hg => rfl); (case hr => exact zH103)
    intro gb311 hg w56 hbox hb
    obtain ⟨n0_, n1_, n2_, n3_, n4_, n5_, n6_, n7_, n8_, n9_, n10_, n11_⟩ := zD12 (zp zG117 hb) (zp zG118 hb) (zp zK203 hb) (zp zK204 hb) (zs (g := gi0) (o := .cells #[.slice A0_0 l0_0.length c0_0, .int .i64 a0_1, u9000_, u9001_, .int .i64 a0_4, .int .i64 a0_5, .bool a0_6] 113 (0, 0)) zG106 hb) (Kept.below (S := (fun k_ => (P0_2_ k_ ∨ P0_3_ k_) ∨ k_ = gi0)) zG84 hb) (zv zG94 hb) (hbox) ((by rw [hg]; exact zG78 : w.heap.size ≤ gb311)) ((by rw [hg]; exact (zt zG94) : w0.heap.size ≤ gb311)) ((by rw [hg]; exact Nat.ne_of_lt (zac (g := gi0) (o := .cells #[.slice A0_0 l0_0.length c0_0, .int .i64 a0_1, u9000_, u9001_, .int .i64 a0_4, .int .i64 a0_5, .bool a0_6] 113 (0, 0)) zG106) : gi0 ≠ gb311)) ((by rw [hg]; exact Nat.ne_of_gt (zac (g := gi0) (o := .cells #[.slice A0_0 l0_0.length c0_0, .int .i64 a0_1, u9000_, u9001_, .int .i64 a0_4, .int .i64 a0_5, .bool a0_6] 113 (0, 0)) zG106) : gb311 ≠ gi0))
    clear HO0_2 HO0_3 HO304 HO307 BK0 HK HB
    have HO0_2 := n0_
    have HO0_3 := n1_
    have HO304 := n2_
    have HO307 := n3_
    have BK0 := n4_
    have HK := n5_
    have HB := n6_
    have BK311 := n7_
    have GW311 := n8_
    have GE311 := n9_
    have NB0_311 := n10_
    have NB311_0 := n11_
    clear n0_ n1_ n2_ n3_ n4_ n5_ n6_ n7_ n8_ n9_ n10_ n11_
    clear hb hbox hg
    refine hK.out _ _ ⟨(zl BK0.out 0).trans rfl, (zl BK0.out 1).trans rfl, (zl BK0.out 2).trans rfl, (zl BK0.out 3).trans rfl, (zl BK0.out 4).trans rfl, (zl BK0.out 5).trans rfl, (zl BK0.out 6).trans rfl⟩ (fun hHeld => ?_)
    clear hK K
    refine norm_ (a' := ?_) ?_ ?_
    rotate_left
    ·show Act.put _ (some 4) _ = _
     simp only [Act.put, List.setIfInBounds_toArray, List.set_cons_zero, List.set_cons_succ, i64_w, i32_w]
     rfl
    exact norm_ zK190 (hCont (v303, v306, gb311) _ ⟨hHeld, zG88, zG89, zG90, zG91, zG106, zG96, GW311.out, GE311.out, NB0_311.out, NB311_0.out, zG80, zG86⟩)
   ·skip
    refine box_step ?hg (N := 4) ?hd (cs := #[.slice none 0 0, .slice none 0 0, .int .i64 0, .int .i64 0]) (t := 28) ?hr ?_; (case hd => rfl); (case hg => rfl); (case hr => exact zH103)
    intro gb311 hg w55 hbox hb
    obtain ⟨n0_, n1_, n2_, n3_, n4_, n5_, n6_, n7_, n8_, n9_⟩ := zD10 (zp zG117 hb) (zp zG118 hb) (zs (g := gi0) (o := .cells #[.slice A0_0 l0_0.length c0_0, .int .i64 a0_1, u9000_, u9001_, .int .i64 a0_4, .int .i64 a0_5, .bool a0_6] 113 (0, 0)) zG106 hb) (Kept.below (S := (fun k_ => (P0_2_ k_ ∨ P0_3_ k_) ∨ k_ = gi0)) zG84 hb) (zv zG94 hb) (hbox) ((by rw [hg]; exact zG78 : w.heap.size ≤ gb311)) ((by rw [hg]; exact (zt zG94) : w0.heap.size ≤ gb311)) ((by rw [hg]; exact Nat.ne_of_lt (zac (g := gi0) (o := .cells #[.slice A0_0 l0_0.length c0_0, .int .i64 a0_1, u9000_, u9001_, .int .i64 a0_4, .int .i64 a0_5, .bool a0_6] 113 (0, 0)) zG106) : gi0 ≠ gb311)) ((by rw [hg]; exact Nat.ne_of_gt (zac (g := gi0) (o := .cells #[.slice A0_0 l0_0.length c0_0, .int .i64 a0_1, u9000_, u9001_, .int .i64 a0_4, .int .i64 a0_5, .bool a0_6] 113 (0, 0)) zG106) : gb311 ≠ gi0))
    clear HO0_2 HO0_3 BK0 HK HB
    have HO0_2 := n0_
    have HO0_3 := n1_
    have BK0 := n2_
    have HK := n3_
    have HB := n4_
    have BK311 := n5_
    have GW311 := n6_
    have GE311 := n7_
    have NB0_311 := n8_
    have NB311_0 := n9_
    clear n0_ n1_ n2_ n3_ n4_ n5_ n6_ n7_ n8_ n9_
    clear hb hbox hg
    refine hK.out _ _ ⟨(zl BK0.out 0).trans rfl, (zl BK0.out 1).trans rfl, (zl BK0.out 2).trans rfl, (zl BK0.out 3).trans rfl, (zl BK0.out 4).trans rfl, (zl BK0.out 5).trans rfl, (zl BK0.out 6).trans rfl⟩ (fun hHeld => ?_)
    clear hK K
    refine norm_ (a' := ?_) ?_ ?_
    rotate_left
    ·show Act.put _ (some 4) _ = _
     simp only [Act.put, List.setIfInBounds_toArray, List.set_cons_zero, List.set_cons_succ, i64_w, i32_w]
     rfl
    refine one_ (i := 9) (N := some 19) b6A16 rfl rfl (one_of HT_.out zG125) zG126 (fun K hK => ?_)
    refine goes_ Try.func123 zG125 rfl #[.slice A0_0 l0_0.length c0_0, .int .i64 a0_1, .slice A1 l1.length c1] (by rfl) rfl rfl zG87 ?_
    with_reducible refine (spec_l20Route.calls k _ _ l0_0 a0_1 _ _ l1 t302 t305 t308 t309 true _ ?side1 ?side2 ?side3 ?side4 A3.out).mono ?_
    (case side1 => exact zaj HR0_0.out zG80)
    (case side2 => exact HC0_0.out)
    (case side3 => exact zaj HR1.out zG80)
    (case side4 => exact HC1.out)
    rintro e w56 ⟨v303, v306, rfl, ho0, ho1, hb⟩
    refine ⟨_, rfl, ?_⟩
    obtain ⟨n0_, n1_, n2_, n3_, n4_, n5_, n6_, n7_⟩ := zD8 (zo (zaa (zaa (zaf zG117 hb) (zy ho0)) (zy ho1)) (fun _ h_ => h_.1)) (zo (zaa (zaa (zaf zG118 hb) (zy ho0)) (zy ho1)) (fun _ h_ => h_.1)) (zae (zz (zz (zap (M := fun k_ => ((P0_2_ k_ ∨ P0_3_ k_) ∨ w.heap.size ≤ k_)) ho0 zG77 (fun k_ h_ => .inr h_)) (zab zG117)) (zab zG118)) (zt zG86)) (zae (zz (zz (zap (M := fun k_ => ((P0_2_ k_ ∨ P0_3_ k_) ∨ w.heap.size ≤ k_)) ho1 zG77 (fun k_ h_ => .inr h_)) (zab zG117)) (zab zG118)) (zt zG86)) (zs (g := gi0) (o := .cells #[.slice A0_0 l0_0.length c0_0, .int .i64 a0_1, u9000_, u9001_, .int .i64 a0_4, .int .i64 a0_5, .bool a0_6] 113 (0, 0)) zG106 hb) (zs (g := gb311) (o := .cells #[.slice none 0 0, .slice none 0 0, .int .i64 0, .int .i64 0] 28 (0, 0)) zG96 hb) (Kept.below (S := (fun k_ => (P0_2_ k_ ∨ P0_3_ k_) ∨ k_ = gi0)) zG80 hb) (zv zG86 hb)
    clear HO0_2 HO0_3 BK0 BK311 HK HB
    have HO0_2 := n0_
    have HO0_3 := n1_
    have HO304 := n2_
    have HO307 := n3_
    have BK0 := n4_
    have BK311 := n5_
    have HK := n6_
    have HB := n7_
    clear n0_ n1_ n2_ n3_ n4_ n5_ n6_ n7_
    (try clear hb)
    (try clear hb2)
    (try clear hk)
    (try clear hi)
    (try clear ho0)
    (try clear ho1)
    refine hK.out _ _ ⟨(zl BK0.out 0).trans rfl, (zl BK0.out 1).trans rfl, (zl BK0.out 2).trans rfl, (zl BK0.out 3).trans rfl, (zl BK0.out 4).trans rfl, (zl BK0.out 5).trans rfl, (zl BK0.out 6).trans rfl⟩ (fun hHeld => ?_)
    clear hK K
    refine norm_ (a' := ?_) ?_ ?_
    rotate_left
    ·show Act.put _ (some 19) _ = _
     simp only [Act.put, List.setIfInBounds_toArray, List.set_cons_zero, List.set_cons_succ, i64_w, i32_w]
     rfl
    refine zP 10 9 b6A17 HT_ ?_
    refine zP 11 20 b6A18 HT_ ?_
    refine zP 12 21 b6A0 HT_ ?_
    exact norm_ zK190 (hCont (v303, v306, gb311) _ ⟨hHeld, zG88, zG89, zG90, zG91, zG106, zG96, GW311.out, GE311.out, NB0_311.out, NB311_0.out, zG80, zG86⟩)
  rintro ⟨v303, v306, gb311⟩ w57 ⟨hS_, h0_, h1_, h2_, h3_, h4_, h5_, h6_, h7_, h8_, h9_, h10_, h11_⟩
  have n0_ : Aside0 (Kd.R (Kd.int .i64) 3 w57 w0.heap.size (fun k_ => ((P0_2_ k_ ∨ P0_3_ k_) ∨ w.heap.size ≤ k_) ∧ some k_ ≠ (u9001_ : Value).ownBlock ∧ some k_ ≠ (v303 : Value).ownBlock ∧ some k_ ≠ (v306 : Value).ownBlock) u9000_ l0_2) := ⟨h0_⟩
  have n1_ : Aside0 (Kd.R (Kd.int .i64) 3 w57 w0.heap.size (fun k_ => ((P0_2_ k_ ∨ P0_3_ k_) ∨ w.heap.size ≤ k_) ∧ some k_ ≠ (u9000_ : Value).ownBlock ∧ some k_ ≠ (v303 : Value).ownBlock ∧ some k_ ≠ (v306 : Value).ownBlock) u9001_ l0_3) := ⟨h1_⟩
  have n2_ : Aside0 (Kd.R (Kd.int .i64) 3 w57 w0.heap.size (fun k_ => ((P0_2_ k_ ∨ P0_3_ k_) ∨ w.heap.size ≤ k_) ∧ some k_ ≠ (u9000_ : Value).ownBlock ∧ some k_ ≠ (u9001_ : Value).ownBlock ∧ some k_ ≠ (v306 : Value).ownBlock) v303 t302) := ⟨h2_⟩
  have n3_ : Aside0 (Kd.R (Kd.int .i64) 3 w57 w0.heap.size (fun k_ => ((P0_2_ k_ ∨ P0_3_ k_) ∨ w.heap.size ≤ k_) ∧ some k_ ≠ (u9000_ : Value).ownBlock ∧ some k_ ≠ (u9001_ : Value).ownBlock ∧ some k_ ≠ (v303 : Value).ownBlock) v306 t305) := ⟨h3_⟩
  have n4_ : Aside0 (w57.heap[gi0]? = some (.cells #[.slice A0_0 l0_0.length c0_0, .int .i64 a0_1, u9000_, u9001_, .int .i64 a0_4, .int .i64 a0_5, .bool a0_6] 113 (0, 0))) := ⟨h4_⟩
  have n5_ : Aside0 (w57.heap[gb311]? = some (.cells #[.slice none 0 0, .slice none 0 0, .int .i64 0, .int .i64 0] 28 (0, 0))) := ⟨h5_⟩
  have n6_ : Aside0 (w.heap.size ≤ gb311) := ⟨h6_⟩
  have n7_ : Aside0 (w0.heap.size ≤ gb311) := ⟨h7_⟩
  have n8_ : Aside0 (gi0 ≠ gb311) := ⟨h8_⟩
  have n9_ : Aside0 (gb311 ≠ gi0) := ⟨h9_⟩
  have n10_ : Aside0 (Kept w w57 (fun k_ => (P0_2_ k_ ∨ P0_3_ k_) ∨ k_ = gi0)) := ⟨h10_⟩
  have n11_ : Aside0 (Below w0.heap.size w0 w57) := ⟨h11_⟩
  clear HO0_2
  clear HO0_3
  clear BK0
  clear HK
  clear HB
  clear h0_ h1_ h2_ h3_ h4_ h5_ h6_ h7_ h8_ h9_ h10_ h11_
  have HO0_2 := n0_
  have HO0_3 := n1_
  have HO304 := n2_
  have HO307 := n3_
  have BK0 := n4_
  have BK311 := n5_
  have GW311 := n6_
  have GE311 := n7_
  have NB0_311 := n8_
  have NB311_0 := n9_
  have HK := n10_
  have HB := n11_
  clear n0_ n1_ n2_ n3_ n4_ n5_ n6_ n7_ n8_ n9_ n10_ n11_
  have hHeld : w57.cell? ⟨gi0, 0, none⟩ = some (.slice A0_0 l0_0.length c0_0) ∧ w57.cell? ⟨gi0, 1, none⟩ = some (.int .i64 a0_1) ∧ w57.cell? ⟨gi0, 2, none⟩ = some (u9000_) ∧ w57.cell? ⟨gi0, 3, none⟩ = some (u9001_) ∧ w57.cell? ⟨gi0, 4, none⟩ = some (.int .i64 a0_4) ∧ w57.cell? ⟨gi0, 5, none⟩ = some (.int .i64 a0_5) ∧ w57.cell? ⟨gi0, 6, none⟩ = some (.bool a0_6) := hS_
  obtain ⟨Ao58, co58, eo58⟩ := zad HO304.out
  (first | subst eo58 | (injection eo58 with f1_ f2_ f3_; have f4_ := f1_.symm; have f5_ := f3_.symm; clear f1_ f2_ f3_; subst f4_; subst f5_))
  obtain ⟨Ao60, co60, eo60⟩ := zad HO307.out
  (first | subst eo60 | (injection eo60 with f1_ f2_ f3_; have f4_ := f1_.symm; have f5_ := f3_.symm; clear f1_ f2_ f3_; subst f4_; subst f5_))
  refine norm_ (a' := ?_) ?_ ?_
  rotate_left
  ·simp only [putAll, Act.put, List.setIfInBounds_toArray, List.set_cons_zero, List.set_cons_succ]
   rfl
  refine one_ (i := 14) (N := none) b6A19 rfl rfl (one_of HT_.out zG125) zG126 (fun K hK => ?_)
  have hs59 : w57.cell? ⟨gb311, 0, none⟩ = some (.slice none 0 0) := (zl BK311.out 0).trans rfl
  have hfs59 := zn BK311.out 0
  have hns59_0 := NB0_311.out
  have hms59_0 := NB311_0.out
  have hs61 : w57.cell? ⟨gb311, 1, none⟩ = some (.slice none 0 0) := (zl BK311.out 1).trans rfl
  have hfs61 := zn BK311.out 1
  have hns61_0 := NB0_311.out
  have hms61_0 := NB311_0.out
  have hs62 : w57.cell? ⟨gb311, 2, none⟩ = some (.int .i64 0) := (zl BK311.out 2).trans rfl
  have hfs62 := zn BK311.out 2
  have hns62_0 := NB0_311.out
  have hms62_0 := NB311_0.out
  have hs63 : w57.cell? ⟨gb311, 3, none⟩ = some (.int .i64 0) := (zl BK311.out 3).trans rfl
  have hfs63 := zn BK311.out 3
  have hns63_0 := NB0_311.out
  have hms63_0 := NB311_0.out
  refine skip_ (w1 := ?_) (by rfl) rfl ?_ ?_
  rotate_left
  ·go_simp
   rfl
  refine hK.out _ _ ⟨((cell_far (p := ⟨gb311, _, none⟩) NB0_311.out _).trans (((cell_far (p := ⟨gb311, _, none⟩) NB0_311.out _).trans (((cell_far (p := ⟨gb311, _, none⟩) NB0_311.out _).trans (((cell_far (p := ⟨gb311, _, none⟩) NB0_311.out _).trans (hHeld.1)))))))), ((cell_far (p := ⟨gb311, _, none⟩) NB0_311.out _).trans (((cell_far (p := ⟨gb311, _, none⟩) NB0_311.out _).trans (((cell_far (p := ⟨gb311, _, none⟩) NB0_311.out _).trans (((cell_far (p := ⟨gb311, _, none⟩) NB0_311.out _).trans (hHeld.2.1)))))))), ((cell_far (p := ⟨gb311, _, none⟩) NB0_311.out _).trans (((cell_far (p := ⟨gb311, _, none⟩) NB0_311.out _).trans (((cell_far (p := ⟨gb311, _, none⟩) NB0_311.out _).trans (((cell_far (p := ⟨gb311, _, none⟩) NB0_311.out _).trans (hHeld.2.2.1)))))))), ((cell_far (p := ⟨gb311, _, none⟩) NB0_311.out _).trans (((cell_far (p := ⟨gb311, _, none⟩) NB0_311.out _).trans (((cell_far (p := ⟨gb311, _, none⟩) NB0_311.out _).trans (((cell_far (p := ⟨gb311, _, none⟩) NB0_311.out _).trans (hHeld.2.2.2.1)))))))), ((cell_far (p := ⟨gb311, _, none⟩) NB0_311.out _).trans (((cell_far (p := ⟨gb311, _, none⟩) NB0_311.out _).trans (((cell_far (p := ⟨gb311, _, none⟩) NB0_311.out _).trans (((cell_far (p := ⟨gb311, _, none⟩) NB0_311.out _).trans (hHeld.2.2.2.2.1)))))))), ((cell_far (p := ⟨gb311, _, none⟩) NB0_311.out _).trans (((cell_far (p := ⟨gb311, _, none⟩) NB0_311.out _).trans (((cell_far (p := ⟨gb311, _, none⟩) NB0_311.out _).trans (((cell_far (p := ⟨gb311, _, none⟩) NB0_311.out _).trans (hHeld.2.2.2.2.2.1)))))))), ((cell_far (p := ⟨gb311, _, none⟩) NB0_311.out _).trans (((cell_far (p := ⟨gb311, _, none⟩) NB0_311.out _).trans (((cell_far (p := ⟨gb311, _, none⟩) NB0_311.out _).trans (((cell_far (p := ⟨gb311, _, none⟩) NB0_311.out _).trans (hHeld.2.2.2.2.2.2))))))))⟩ (fun hHeld => ?_)
  clear hK K
  refine zP 15 5 b6A20 HT_ ?_
  refine done_ (done_of HT_.out zG125) ?_
  have hnb64 := NB0_311.out
  have hnc64 := NB311_0.out
  obtain ⟨hcz65_0, hcz65_1, hcz65_2, hcz65_3, hcz65_4, hcz65_5, hcz65_6, hfz65_0, hfz65_1, hfz65_2, hfz65_3, hfz65_4, hfz65_5, hfz65_6⟩ := zB7 BK0.out
  try go_wp2
  go_loopg [6] k (fun kq v6 w' => ∃ (x6_1 : Int) (x1002_1 : List Int) (x1003_1 : List Int) (x1004_1 : Int) (x1005_1 : Int) (x1006_1 : Bool) (u1002 : Value) (u1003 : Value), v6 = .int .i64 x6_1 ∧ Aside0 (spec_l20Search_try.l0 kq l1 x6_1 l0_0 a0_1 x1002_1 x1003_1 x1004_1 x1005_1 x1006_1 = some (r1, r2, r3, r4, r5)) ∧ Aside0 (kq ≤ k) ∧ Aside0 (Kd.R (Kd.int .i64) 3 w' w0.heap.size (fun k_ => ((P0_2_ k_ ∨ P0_3_ k_) ∨ w.heap.size ≤ k_) ∧ some k_ ≠ (u1003 : Value).ownBlock ∧ some k_ ≠ ((.slice Ao58 t302.length co58) : Value).ownBlock ∧ some k_ ≠ ((.slice Ao60 t305.length co60) : Value).ownBlock) u1002 x1002_1) ∧ Aside0 (Kd.R (Kd.int .i64) 3 w' w0.heap.size (fun k_ => ((P0_2_ k_ ∨ P0_3_ k_) ∨ w.heap.size ≤ k_) ∧ some k_ ≠ (u1002 : Value).ownBlock ∧ some k_ ≠ ((.slice Ao58 t302.length co58) : Value).ownBlock ∧ some k_ ≠ ((.slice Ao60 t305.length co60) : Value).ownBlock) u1003 x1003_1) ∧ Aside0 (Kd.R (Kd.int .i64) 3 w' w0.heap.size (fun k_ => ((P0_2_ k_ ∨ P0_3_ k_) ∨ w.heap.size ≤ k_) ∧ some k_ ≠ (u1002 : Value).ownBlock ∧ some k_ ≠ (u1003 : Value).ownBlock ∧ some k_ ≠ ((.slice Ao60 t305.length co60) : Value).ownBlock) (.slice Ao58 t302.length co58) t302) ∧ Aside0 (Kd.R (Kd.int .i64) 3 w' w0.heap.size (fun k_ => ((P0_2_ k_ ∨ P0_3_ k_) ∨ w.heap.size ≤ k_) ∧ some k_ ≠ (u1002 : Value).ownBlock ∧ some k_ ≠ (u1003 : Value).ownBlock ∧ some k_ ≠ ((.slice Ao58 t302.length co58) : Value).ownBlock) (.slice Ao60 t305.length co60) t305) ∧ Aside0 (w'.heap[gi0]? = some (.cells #[(.slice A0_0 l0_0.length c0_0), .int .i64 a0_1, u1002, u1003, .int .i64 x1004_1, .int .i64 x1005_1, .bool x1006_1] 113 (0, 0))) ∧ Aside0 (w'.heap[gb311]? = some (.cells #[(.slice Ao58 t302.length co58), (.slice Ao60 t305.length co60), .int .i64 t308, .int .i64 t309] 28 (0, 0))) ∧ Aside0 (Kept w w' (fun k_ => (P0_2_ k_ ∨ P0_3_ k_) ∨ k_ = gi0)) ∧ Aside0 (Below w0.heap.size w0 w'))
  case atStart => exact ⟨(0), (l0_2), (l0_3), (a0_4), (a0_5), (a0_6), (u9000_), (u9001_), zG124, H', ⟨Nat.le_refl _⟩, ⟨by (with_reducible repeat (first | apply zf | apply zg | apply zh)); exact zo (zd (p := ⟨gb311, 3, none⟩) (zd (p := ⟨gb311, 2, none⟩) (zd (p := ⟨gb311, 1, none⟩) (zd (p := ⟨gb311, 0, none⟩) (zq HO0_2.out BK311.out zG126) (fun _ hk => hk.2) (.slice Ao58 t302.length co58)) (fun _ hk => hk.2) (.slice Ao60 t305.length co60)) (fun _ hk => hk.2) (.int .i64 t308)) (fun _ hk => hk.2) (.int .i64 t309)) (fun _ hk => ⟨hk.1.1, ⟨hk.1.2.1, ⟨hk.1.2.2.1, hk.1.2.2.2⟩⟩⟩)⟩, ⟨by (with_reducible repeat (first | apply zf | apply zg | apply zh)); exact zo (zd (p := ⟨gb311, 3, none⟩) (zd (p := ⟨gb311, 2, none⟩) (zd (p := ⟨gb311, 1, none⟩) (zd (p := ⟨gb311, 0, none⟩) (zq HO0_3.out BK311.out zG126) (fun _ hk => hk.2) (.slice Ao58 t302.length co58)) (fun _ hk => hk.2) (.slice Ao60 t305.length co60)) (fun _ hk => hk.2) (.int .i64 t308)) (fun _ hk => hk.2) (.int .i64 t309)) (fun _ hk => ⟨hk.1.1, ⟨hk.1.2.1, ⟨hk.1.2.2.1, hk.1.2.2.2⟩⟩⟩)⟩, ⟨by (with_reducible repeat (first | apply zf | apply zg | apply zh)); exact zo (zd (p := ⟨gb311, 3, none⟩) (zd (p := ⟨gb311, 2, none⟩) (zd (p := ⟨gb311, 1, none⟩) (zd (p := ⟨gb311, 0, none⟩) (zq HO304.out BK311.out zG126) (fun _ hk => hk.2) (.slice Ao58 t302.length co58)) (fun _ hk => hk.2) (.slice Ao60 t305.length co60)) (fun _ hk => hk.2) (.int .i64 t308)) (fun _ hk => hk.2) (.int .i64 t309)) (fun _ hk => ⟨hk.1.1, ⟨hk.1.2.1, ⟨hk.1.2.2.1, hk.1.2.2.2⟩⟩⟩)⟩, ⟨by (with_reducible repeat (first | apply zf | apply zg | apply zh)); exact zo (zd (p := ⟨gb311, 3, none⟩) (zd (p := ⟨gb311, 2, none⟩) (zd (p := ⟨gb311, 1, none⟩) (zd (p := ⟨gb311, 0, none⟩) (zq HO307.out BK311.out zG126) (fun _ hk => hk.2) (.slice Ao58 t302.length co58)) (fun _ hk => hk.2) (.slice Ao60 t305.length co60)) (fun _ hk => hk.2) (.int .i64 t308)) (fun _ hk => hk.2) (.int .i64 t309)) (fun _ hk => ⟨hk.1.1, ⟨hk.1.2.1, ⟨hk.1.2.2.1, hk.1.2.2.2⟩⟩⟩)⟩, ⟨zH6⟩, ⟨by (with_reducible repeat (first | refine zc ?_ _ | refine ze ?_ | refine zb ?_ _)); refine zu (cs := #[.slice Ao58 t302.length co58, .slice Ao60 t305.length co60, .int .i64 t308, .int .i64 0]) ?_ 3 _ rfl; (with_reducible repeat (first | refine zc ?_ _ | refine ze ?_ | refine zb ?_ _)); refine zu (cs := #[.slice Ao58 t302.length co58, .slice Ao60 t305.length co60, .int .i64 0, .int .i64 0]) ?_ 2 _ rfl; (with_reducible repeat (first | refine zc ?_ _ | refine ze ?_ | refine zb ?_ _)); refine zu (cs := #[.slice Ao58 t302.length co58, .slice none 0 0, .int .i64 0, .int .i64 0]) ?_ 1 _ rfl; (with_reducible repeat (first | refine zc ?_ _ | refine ze ?_ | refine zb ?_ _)); refine zu (cs := #[.slice none 0 0, .slice none 0 0, .int .i64 0, .int .i64 0]) ?_ 0 _ rfl; (with_reducible repeat (first | refine zc ?_ _ | refine ze ?_ | refine zb ?_ _)); exact BK311.out⟩, ⟨zH33⟩, ⟨zH54⟩⟩
  case round =>
   clear H'
   try clear c1
   try clear c4
   try clear c5
   try clear c5b0
   try clear c5b1
   try clear c5b2
   try clear hcz65_0
   try clear hcz65_1
   try clear hcz65_2
   try clear hcz65_3
   try clear hcz65_4
   try clear hcz65_5
   try clear hcz65_6
   try clear hfz65_0
   try clear hfz65_1
   try clear hfz65_2
   try clear hfz65_3
   try clear hfz65_4
   try clear hfz65_5
   try clear hfz65_6
   obtain ⟨x6_1, x1002_1, x1003_1, x1004_1, x1005_1, x1006_1, u1002, u1003, rfl, HA, HK1, HO_1002, HO_1003, HO_312000, HO_312001, BK0, BK311, HK, HB⟩ := hrel
   cases gk with
   | zero => exact absurd HA.out (by simp [spec_l20Search_try.l0])
   | succ k1 =>
    have H := HA.out
    clear HA
    simp only [spec_l20Search_try.l0] at H
    by_cases c66 : x6_1 < (l0_0.length : Int)
    rotate_left
    ·rw [if_neg c66] at H
     have c66b0 := decide_eq_false c66
     clear c66
     simp only [Option.some.injEq, Prod.mk.injEq] at H
     obtain ⟨rfl, rfl, rfl, rfl, rfl⟩ := H
     have hnb84 := NB0_311.out
     have hnc84 := NB311_0.out
     obtain ⟨hcz85_0, hcz85_1, hcz85_2, hcz85_3, hcz85_4, hcz85_5, hcz85_6, hfz85_0, hfz85_1, hfz85_2, hfz85_3, hfz85_4, hfz85_5, hfz85_6⟩ := zB7 BK0.out
     go_wp2
     first | go_end0 | ((try simp only [Exit.inBlock, Exit.then]); refine bodyPost_ret (results_none rfl _ _ _) rfl ?_)
     exact ⟨_, _, zH92, by (with_reducible repeat (first | apply zf | apply zg | apply zh)); exact zo HO_1002.out (fun _ hk => ⟨hk.1, hk.2.1⟩), by (with_reducible repeat (first | apply zf | apply zg | apply zh)); exact zo HO_1003.out (fun _ hk => ⟨hk.1, hk.2.1⟩), zG106, zH54, zH33⟩
    rw [if_pos c66] at H
    have c66b0 := decide_eq_true c66
    clear c66
    have H' := za H
    clear H
    have hnb67 := NB0_311.out
    have hnc67 := NB311_0.out
    obtain ⟨hcz68_0, hcz68_1, hcz68_2, hcz68_3, hcz68_4, hcz68_5, hcz68_6, hfz68_0, hfz68_1, hfz68_2, hfz68_3, hfz68_4, hfz68_5, hfz68_6⟩ := zB7 BK0.out
    go_wp2
    go_loopg [7, 8] k1 (fun kq v7 v8 w' => ∃ (x7_2 : Bool) (x8_2 : Int), v7 = .bool x7_2 ∧ v8 = .int .i64 x8_2 ∧ Aside0 (spec_l20Search_try.l1 kq l1 x6_1 x7_2 x8_2 l0_0 a0_1 x1002_1 x1003_1 x1004_1 x1005_1 x1006_1 = some (r1, r2, r3, r4, r5)) ∧ Aside0 (kq ≤ k1) ∧ Aside0 (Kd.R (Kd.int .i64) 3 w' w0.heap.size (fun k_ => ((P0_2_ k_ ∨ P0_3_ k_) ∨ w.heap.size ≤ k_) ∧ some k_ ≠ (u1003 : Value).ownBlock ∧ some k_ ≠ ((.slice Ao58 t302.length co58) : Value).ownBlock ∧ some k_ ≠ ((.slice Ao60 t305.length co60) : Value).ownBlock) u1002 x1002_1) ∧ Aside0 (Kd.R (Kd.int .i64) 3 w' w0.heap.size (fun k_ => ((P0_2_ k_ ∨ P0_3_ k_) ∨ w.heap.size ≤ k_) ∧ some k_ ≠ (u1002 : Value).ownBlock ∧ some k_ ≠ ((.slice Ao58 t302.length co58) : Value).ownBlock ∧ some k_ ≠ ((.slice Ao60 t305.length co60) : Value).ownBlock) u1003 x1003_1) ∧ Aside0 (Kd.R (Kd.int .i64) 3 w' w0.heap.size (fun k_ => ((P0_2_ k_ ∨ P0_3_ k_) ∨ w.heap.size ≤ k_) ∧ some k_ ≠ (u1002 : Value).ownBlock ∧ some k_ ≠ (u1003 : Value).ownBlock ∧ some k_ ≠ ((.slice Ao60 t305.length co60) : Value).ownBlock) (.slice Ao58 t302.length co58) t302) ∧ Aside0 (Kd.R (Kd.int .i64) 3 w' w0.heap.size (fun k_ => ((P0_2_ k_ ∨ P0_3_ k_) ∨ w.heap.size ≤ k_) ∧ some k_ ≠ (u1002 : Value).ownBlock ∧ some k_ ≠ (u1003 : Value).ownBlock ∧ some k_ ≠ ((.slice Ao58 t302.length co58) : Value).ownBlock) (.slice Ao60 t305.length co60) t305) ∧ Aside0 (w'.heap[gi0]? = some (.cells #[(.slice A0_0 l0_0.length c0_0), .int .i64 a0_1, u1002, u1003, .int .i64 x1004_1, .int .i64 x1005_1, .bool x1006_1] 113 (0, 0))) ∧ Aside0 (w'.heap[gb311]? = some (.cells #[(.slice Ao58 t302.length co58), (.slice Ao60 t305.length co60), .int .i64 t308, .int .i64 t309] 28 (0, 0))) ∧ Aside0 (Kept w w' (fun k_ => (P0_2_ k_ ∨ P0_3_ k_) ∨ k_ = gi0)) ∧ Aside0 (Below w0.heap.size w0 w'))
    case atStart => exact ⟨(false), (0), zG124, zG124, H', ⟨Nat.le_refl _⟩, ⟨zH95⟩, ⟨zH96⟩, ⟨zH93⟩, ⟨zH94⟩, ⟨zH91⟩, ⟨zH84⟩, ⟨zH33⟩, ⟨zH54⟩⟩
    case round =>
     clear H'
     try clear c1
     try clear c4
     try clear c5
     try clear c5b0
     try clear c5b1
     try clear c5b2
     try clear c66
     try clear c66b0
     try clear hcz65_0
     try clear hcz65_1
     try clear hcz65_2
     try clear hcz65_3
     try clear hcz65_4
     try clear hcz65_5
     try clear hcz65_6
     try clear hcz68_0
     try clear hcz68_1
     try clear hcz68_2
     try clear hcz68_3
     try clear hcz68_4
     try clear hcz68_5
     try clear hcz68_6
     try clear hfz65_0
     try clear hfz65_1
     try clear hfz65_2
     try clear hfz65_3
     try clear hfz65_4
     try clear hfz65_5
     try clear hfz65_6
     try clear hfz68_0
     try clear hfz68_1
     try clear hfz68_2
     try clear hfz68_3
     try clear hfz68_4
     try clear hfz68_5
     try clear hfz68_6
     obtain ⟨x7_2, x8_2, rfl, rfl, HA, HK2, HO_1002, HO_1003, HO_312000, HO_312001, BK0, BK311, HK, HB⟩ := hrel
     cases gk with
     | zero => exact absurd HA.out (by simp [spec_l20Search_try.l1])
     | succ k2 =>
      have H := HA.out
      clear HA
      simp only [spec_l20Search_try.l1] at H
      by_cases c69 : x8_2 < (l1.length : Int)
      ·rw [if_pos c69] at H
       have c69b0 := decide_eq_true c69
       clear c69
       by_cases c70 : x7_2 = true
       ·subst c70
        have H1 : (spec_l20Search_try.l1 k2 l1 x6_1 true (wrap64 (x8_2 + 1)) l0_0 a0_1 x1002_1 x1003_1 x1004_1 x1005_1 x1006_1) = some (r1, r2, r3, r4, r5) := by rw [if_pos rfl] at H; exact H
        clear H
        have H := H1
        clear H1
        have H' := za H
        clear H
        go_wp2
        go_roundg k2
        case measure => have := HK1.out; have := HK2.out; omega
        case rel => exact ⟨(true), (wrap64 (x8_2 + 1)), zG124, zG124, H', ⟨zH102⟩, ⟨zH95⟩, ⟨zH96⟩, ⟨zH93⟩, ⟨zH94⟩, ⟨zH91⟩, ⟨zH84⟩, ⟨zH33⟩, ⟨zH54⟩⟩
       replace c70 := Bool.eq_false_iff.mpr c70
       subst c70
       have H1 : (if 0 ≤ x8_2 then (spec_l20Search_try.l1 k2 l1 x6_1 ((rd l1 x8_2) == x6_1) (wrap64 (x8_2 + 1)) l0_0 a0_1 x1002_1 x1003_1 x1004_1 x1005_1 x1006_1) else (none)) = some (r1, r2, r3, r4, r5) := by rw [if_neg (show ¬ (false = true) by decide)] at H; exact H
       clear H
       have H := H1
       clear H1
       by_cases c71 : 0 ≤ x8_2
       rotate_left
       ·rw [if_neg c71] at H
        exact absurd H (by simp)
       rw [if_pos c71] at H
       have c71b0 := decide_eq_true c71
       clear c71
       have H' := za H
       clear H
       have p312 : 0 ≤ (x8_2 : Int) := zO
       have q312 : x8_2 < (l1.length : Int) := zO
       obtain ⟨ad312, e312, hx312_0⟩ := zao (zaj HR1.out HK.out) x8_2 p312 q312
       cases e312
       replace p312 := eq_true p312
       replace q312 := eq_true q312
       go_wp2
       go_roundg k2
       case measure => have := HK1.out; have := HK2.out; omega
       case rel => exact ⟨(((rd l1 x8_2) == x6_1)), (wrap64 (x8_2 + 1)), zG124, zG124, H', ⟨zH102⟩, ⟨zH95⟩, ⟨zH96⟩, ⟨zH93⟩, ⟨zH94⟩, ⟨zH91⟩, ⟨zH84⟩, ⟨zH33⟩, ⟨zH54⟩⟩
      rw [if_neg c69] at H
      have c69b0 := decide_eq_false c69
      clear c69
      by_cases c72 : x7_2 = true
      ·subst c72
       have H1 : (spec_l20Search_try.l0 k2 l1 (wrap64 (x6_1 + 1)) l0_0 a0_1 x1002_1 x1003_1 x1004_1 x1005_1 x1006_1) = some (r1, r2, r3, r4, r5) := by rw [if_pos rfl] at H; exact H
       clear H
       have H := H1
       clear H1
       have H' := za H
       clear H
       go_wp2
       go_roundg k2
       case measure => have := HK1.out; have := HK2.out; omega
       case rel => exact ⟨(wrap64 (x6_1 + 1)), (x1002_1), (x1003_1), (x1004_1), (x1005_1), (x1006_1), (u1002), (u1003), zG124, H', ⟨zH102⟩, ⟨zH95⟩, ⟨zH96⟩, ⟨zH93⟩, ⟨zH94⟩, ⟨zH91⟩, ⟨zH84⟩, ⟨zH33⟩, ⟨zH54⟩⟩
      replace c72 := Bool.eq_false_iff.mpr c72
      subst c72
      have H1 : ((some (([] : List Int) : List Int)).bind fun y313 => (if y313.length + l1.length < 17592186044416 then ((some (y313 ++ l1 : List Int)).bind fun y316 => (if y316.length < 17592186044416 then ((spec_l20Search_try.f k2 l0_0 a0_1 x1002_1 x1003_1 x1004_1 x1005_1 x1006_1 (y316 ++ [x6_1])).bind fun bt322 => (spec_l20Search_try.l0 k2 l1 (wrap64 (x6_1 + 1)) l0_0 a0_1 bt322.1 bt322.2.1 bt322.2.2.1 bt322.2.2.2.1 bt322.2.2.2.2)) else (none))) else (none))) = some (r1, r2, r3, r4, r5) := by rw [if_neg (show ¬ (false = true) by decide)] at H; exact H
      clear H
      have H := H1
      clear H1
      obtain ⟨y313, hy313⟩ : ∃ y_ : List Int, y_ = (([] : List Int)) := ⟨_, rfl⟩
      replace H : (if y313.length + l1.length < 17592186044416 then ((some (y313 ++ l1 : List Int)).bind fun y316 => (if y316.length < 17592186044416 then ((spec_l20Search_try.f k2 l0_0 a0_1 x1002_1 x1003_1 x1004_1 x1005_1 x1006_1 (y316 ++ [x6_1])).bind fun bt322 => (spec_l20Search_try.l0 k2 l1 (wrap64 (x6_1 + 1)) l0_0 a0_1 bt322.1 bt322.2.1 bt322.2.2.1 bt322.2.2.2.1 bt322.2.2.2.2)) else (none))) else (none)) = some (r1, r2, r3, r4, r5) := by first | (rw [hy313]; with_reducible exact H) | (have H2_ := (Option.bind_some _ _).symm.trans H; rw [hy313]; with_reducible exact H2_) | (have H2_ := (Option.bind_some _ _).symm.trans H; with_reducible exact H2_) | with_reducible exact H | (rw [hy313]; exact H) | exact H
      have Ny313 := za hy313
      clear hy313
      by_cases c73 : y313.length + l1.length < 17592186044416
      rotate_left
      ·rw [if_neg c73] at H
       exact absurd H (by simp)
      rw [if_pos c73] at H
      have LMc73 := za c73
      clear c73
      obtain ⟨y316, hy316⟩ : ∃ y_ : List Int, y_ = (y313 ++ l1) := ⟨_, rfl⟩
      replace H : (if y316.length < 17592186044416 then ((spec_l20Search_try.f k2 l0_0 a0_1 x1002_1 x1003_1 x1004_1 x1005_1 x1006_1 (y316 ++ [x6_1])).bind fun bt322 => (spec_l20Search_try.l0 k2 l1 (wrap64 (x6_1 + 1)) l0_0 a0_1 bt322.1 bt322.2.1 bt322.2.2.1 bt322.2.2.2.1 bt322.2.2.2.2)) else (none)) = some (r1, r2, r3, r4, r5) := by first | (rw [hy316]; with_reducible exact H) | (have H2_ := (Option.bind_some _ _).symm.trans H; rw [hy316]; with_reducible exact H2_) | (have H2_ := (Option.bind_some _ _).symm.trans H; with_reducible exact H2_) | with_reducible exact H | (rw [hy316]; exact H) | exact H
      have Ny316 := za hy316
      clear hy316
      by_cases c74 : y316.length < 17592186044416
      rotate_left
      ·rw [if_neg c74] at H
       exact absurd H (by simp)
      rw [if_pos c74] at H
      have LMc74 := za c74
      clear c74
      obtain ⟨y319, hy319⟩ : ∃ y_ : List Int, y_ = (y316 ++ [x6_1]) := ⟨_, rfl⟩
      replace H : ((spec_l20Search_try.f k2 l0_0 a0_1 x1002_1 x1003_1 x1004_1 x1005_1 x1006_1 y319).bind fun bt322 => (spec_l20Search_try.l0 k2 l1 (wrap64 (x6_1 + 1)) l0_0 a0_1 bt322.1 bt322.2.1 bt322.2.2.1 bt322.2.2.2.1 bt322.2.2.2.2)) = some (r1, r2, r3, r4, r5) := by first | (rw [hy319]; with_reducible exact H) | (have H2_ := (Option.bind_some _ _).symm.trans H; rw [hy319]; with_reducible exact H2_) | (have H2_ := (Option.bind_some _ _).symm.trans H; with_reducible exact H2_) | with_reducible exact H | (rw [hy319]; exact H) | exact H
      have Ny319 := za hy319
      clear hy319
      replace H := Option.bind_eq_some_iff.mp H
      obtain ⟨⟨t322, t325, t328, t329, t330⟩, A750, H⟩ := H
      replace H : (spec_l20Search_try.l0 k2 l1 (wrap64 (x6_1 + 1)) l0_0 a0_1 t322 t325 t328 t329 t330) = some (r1, r2, r3, r4, r5) := H
      have A75 := za A750
      clear A750
      have H' := za H
      clear H
      go_wp2_with (first | ((with_reducible refine gate_dst (N := 81) rfl ?_); refine zbg (Kd.int .i64) _ 3 ?hg (N := 81) ?hd (xs := ([] : List Int)) (inner := []) (ok := fun _ => True) (okp := fun _ => True) ?hr ?hp (fun _ hk => hk) trivial (Below.refl _ _) (Nat.le_refl _) (by simp) ?_; (case hd => rfl); (case hg => rfl); (case hr => exact zH103); (case hp => exact (Reps.none _ _)); intro v314 w76 ho77 hb hg_ hnew_; clear hg_ hnew_; (first | rw [← Ny313.out] at ho77 | (simp only [Int.reduceToNat] at ho77; rw [← Ny313.out] at ho77)); have n_ := zA_ (za (zbc zK199 (zy ho77) hb)) (zA_ (za (zbc zK200 (zy ho77) hb)) (zA_ (za (zbc zK195 (zy ho77) hb)) (zA_ (za (zbc zK196 (zy ho77) hb)) (zA_ (za (zae (zz (zz (zz (zz (zap (M := fun k_ => ((P0_2_ k_ ∨ P0_3_ k_) ∨ w.heap.size ≤ k_)) ho77 zG77 (fun k_ h_ => .inr h_)) (zab zK199)) (zab zK200)) (zab zK195)) (zab zK196)) (zt zG86))) (zA_ (za (zs (g := gi0) (o := .cells #[.slice A0_0 l0_0.length c0_0, .int .i64 a0_1, u1002, u1003, .int .i64 x1004_1, .int .i64 x1005_1, .bool x1006_1] 113 (0, 0)) zG106 hb)) (zA_ (za (zs (g := gb311) (o := .cells #[.slice Ao58 t302.length co58, .slice Ao60 t305.length co60, .int .i64 t308, .int .i64 t309] 28 (0, 0)) zG96 hb)) (zA_ (za (Kept.below (S := (fun k_ => (P0_2_ k_ ∨ P0_3_ k_) ∨ k_ = gi0)) zG80 hb)) (za (zv zG86 hb))))))))); clear HO_1002 HO_1003 HO_312000 HO_312001 BK0 BK311 HK HB; obtain ⟨HO_1002, HO_1003, HO_312000, HO_312001, HO315, BK0, BK311, HK, HB⟩ := n_; clear hb ho77) | ((with_reducible refine gate_builtin (b := .append) (xs := #[.tmp 81, .tmp 82]) rfl ?_); at_builtin; refine Kd.R_append_rows (Kd.int .i64) (w0 := w0) w0.heap.size rfl (.tmp 81) (.tmp 82) 24 3 (.int .i64 0) 8 rfl Try.underlying24 info3 rfl zG126 (by omega) v314 y313 l1 _ _ _ (fun k_ => ((P0_2_ k_ ∨ P0_3_ k_) ∨ w.heap.size ≤ k_) ∧ some k_ ≠ (u1002 : Value).ownBlock ∧ some k_ ≠ (u1003 : Value).ownBlock ∧ some k_ ≠ (.slice Ao58 t302.length co58 : Value).ownBlock ∧ some k_ ≠ (.slice Ao60 t305.length co60 : Value).ownBlock) (fun _ => False) rfl rfl ?aO ?aR (fun _ _ h => h) (fun _ h => h.elim) ?aF ?aB ?aS ?aL ?_; (case aR => exact zaj HR1.out zG80); (case aB => exact zG86); (case aF => exact zH9); (case aO => exact (by (with_reducible repeat (first | apply zf | apply zg | apply zh)); exact zo HO315.out (fun _ hk => ⟨hk.1.1.1.1.1, ⟨hk.1.1.1.2, ⟨hk.1.1.2, ⟨hk.1.2, hk.2⟩⟩⟩⟩))); (case aS => exact (zt zG86)); (case aL => have := LMc73.out; omega); intro v317 w78 ho hb hg hat; rw [← Ny316.out] at ho; have n_ := zA_ (za (zat (ok := (fun k_ => ((P0_2_ k_ ∨ P0_3_ k_) ∨ w.heap.size ≤ k_) ∧ some k_ ≠ (u1003 : Value).ownBlock ∧ some k_ ≠ (.slice Ao58 t302.length co58 : Value).ownBlock ∧ some k_ ≠ (.slice Ao60 t305.length co60 : Value).ownBlock)) zK199 hg hat)) (zA_ (za (zat (ok := (fun k_ => ((P0_2_ k_ ∨ P0_3_ k_) ∨ w.heap.size ≤ k_) ∧ some k_ ≠ (u1002 : Value).ownBlock ∧ some k_ ≠ (.slice Ao58 t302.length co58 : Value).ownBlock ∧ some k_ ≠ (.slice Ao60 t305.length co60 : Value).ownBlock)) zK200 hg hat)) (zA_ (za (zat (ok := (fun k_ => ((P0_2_ k_ ∨ P0_3_ k_) ∨ w.heap.size ≤ k_) ∧ some k_ ≠ (u1002 : Value).ownBlock ∧ some k_ ≠ (u1003 : Value).ownBlock ∧ some k_ ≠ (.slice Ao60 t305.length co60 : Value).ownBlock)) zK195 hg hat)) (zA_ (za (zat (ok := (fun k_ => ((P0_2_ k_ ∨ P0_3_ k_) ∨ w.heap.size ≤ k_) ∧ some k_ ≠ (u1002 : Value).ownBlock ∧ some k_ ≠ (u1003 : Value).ownBlock ∧ some k_ ≠ (.slice Ao58 t302.length co58 : Value).ownBlock)) zK196 hg hat)) (zA_ (za (zak (g := gi0) (o := .cells #[.slice A0_0 l0_0.length c0_0, .int .i64 a0_1, u1002, u1003, .int .i64 x1004_1, .int .i64 x1005_1, .bool x1006_1] 113 (0, 0)) zG106 hg (zan HO315.out BK0.out zG126))) (zA_ (za (zak (g := gb311) (o := .cells #[.slice Ao58 t302.length co58, .slice Ao60 t305.length co60, .int .i64 t308, .int .i64 t309] 28 (0, 0)) zG96 hg (zan HO315.out BK311.out zG126))) (zA_ (za (hb)) (zA_ (za (Kept.of_grown (S := (fun k_ => (P0_2_ k_ ∨ P0_3_ k_) ∨ k_ = gi0)) hg zG80 (fun k_ e_ => (Or.imp_left (fun z_ => (Or.inl z_)) ((HO315.out.1 k_ e_).1.1.1.1.1))))) (za (ho))))))))); clear HO_1002 HO_1003 HO_312000 HO_312001 BK0 BK311 HB HK HO315; obtain ⟨HO_1002, HO_1003, HO_312000, HO_312001, BK0, BK311, HB, HK, HO318⟩ := n_; clear ho hb hg hat) | ((with_reducible refine gate_builtin (b := .append) (xs := #[.tmp 83, .tmp 85]) rfl ?_); at_builtin; refine zaz (Kd.int .i64) (w0 := w0) w0.heap.size rfl (.tmp 83) (.tmp 85) 24 3 (.int .i64 0) 8 rfl Try.underlying24 info3 rfl zG126 (by omega) v317 y316 x6_1 [.int .i64 x6_1] (fun k_ => ((P0_2_ k_ ∨ P0_3_ k_) ∨ w.heap.size ≤ k_) ∧ some k_ ≠ (u1002 : Value).ownBlock ∧ some k_ ≠ (u1003 : Value).ownBlock ∧ some k_ ≠ (.slice Ao58 t302.length co58 : Value).ownBlock ∧ some k_ ≠ (.slice Ao60 t305.length co60 : Value).ownBlock) (fun _ => False) rfl rfl ?aP (fun _ hk => hk.elim) ?aF ?aO ?aB ?aS ?aL ?_; (case aP => exact rfl); (case aB => exact zG86); (case aF => exact zH9); (case aO => exact (by (with_reducible repeat (first | apply zf | apply zg | apply zh)); exact HO318.out)); (case aS => exact (zt zG86)); (case aL => have := LMc74.out; omega); intro v320 w79 ho hb hg hat; rw [← Ny319.out] at ho; have n_ := zA_ (za (zat (ok := (fun k_ => ((P0_2_ k_ ∨ P0_3_ k_) ∨ w.heap.size ≤ k_) ∧ some k_ ≠ (u1003 : Value).ownBlock ∧ some k_ ≠ (.slice Ao58 t302.length co58 : Value).ownBlock ∧ some k_ ≠ (.slice Ao60 t305.length co60 : Value).ownBlock)) zK199 hg hat)) (zA_ (za (zat (ok := (fun k_ => ((P0_2_ k_ ∨ P0_3_ k_) ∨ w.heap.size ≤ k_) ∧ some k_ ≠ (u1002 : Value).ownBlock ∧ some k_ ≠ (.slice Ao58 t302.length co58 : Value).ownBlock ∧ some k_ ≠ (.slice Ao60 t305.length co60 : Value).ownBlock)) zK200 hg hat)) (zA_ (za (zat (ok := (fun k_ => ((P0_2_ k_ ∨ P0_3_ k_) ∨ w.heap.size ≤ k_) ∧ some k_ ≠ (u1002 : Value).ownBlock ∧ some k_ ≠ (u1003 : Value).ownBlock ∧ some k_ ≠ (.slice Ao60 t305.length co60 : Value).ownBlock)) zK195 hg hat)) (zA_ (za (zat (ok := (fun k_ => ((P0_2_ k_ ∨ P0_3_ k_) ∨ w.heap.size ≤ k_) ∧ some k_ ≠ (u1002 : Value).ownBlock ∧ some k_ ≠ (u1003 : Value).ownBlock ∧ some k_ ≠ (.slice Ao58 t302.length co58 : Value).ownBlock)) zK196 hg hat)) (zA_ (za (zak (g := gi0) (o := .cells #[.slice A0_0 l0_0.length c0_0, .int .i64 a0_1, u1002, u1003, .int .i64 x1004_1, .int .i64 x1005_1, .bool x1006_1] 113 (0, 0)) zG106 hg (zan HO318.out BK0.out zG126))) (zA_ (za (zak (g := gb311) (o := .cells #[.slice Ao58 t302.length co58, .slice Ao60 t305.length co60, .int .i64 t308, .int .i64 t309] 28 (0, 0)) zG96 hg (zan HO318.out BK311.out zG126))) (zA_ (za (hb)) (zA_ (za (Kept.of_grown (S := (fun k_ => (P0_2_ k_ ∨ P0_3_ k_) ∨ k_ = gi0)) hg zG80 (fun k_ e_ => (Or.imp_left (fun z_ => (Or.inl z_)) ((HO318.out.1 k_ e_).1))))) (za (ho))))))))); clear HO_1002 HO_1003 HO_312000 HO_312001 BK0 BK311 HB HK HO318; obtain ⟨HO_1002, HO_1003, HO_312000, HO_312001, BK0, BK311, HB, HK, HO321⟩ := n_; clear ho hb hg hat; obtain ⟨Ao80, co80, eo80⟩ := zad HO_1002.out; subst eo80; obtain ⟨Ao81, co81, eo81⟩ := zad HO_1003.out; subst eo81; obtain ⟨Ao82, co82, eo82⟩ := zad HO321.out; subst eo82) | ((with_reducible refine gate_callee (f := 69) rfl ?_); refine goesL_ (some 87) rfl rfl Try.func69 zG125 rfl #[.pointer (some ⟨gi0, 0, none⟩), .slice Ao82 y319.length co82] rfl zG87 ?_; (with_reducible refine (ih k2 (by have := HK1.out; have := HK2.out; omega) gi0 A0_0 c0_0 l0_0 a0_1 (fun k_ => some k_ = (.slice Ao80 x1002_1.length co80 : Value).ownBlock) (.slice Ao80 x1002_1.length co80) x1002_1 (fun k_ => some k_ = (.slice Ao81 x1003_1.length co81 : Value).ownBlock) (.slice Ao81 x1003_1.length co81) x1003_1 x1004_1 x1005_1 x1006_1 _ _ y319 t322 t325 t328 t329 t330 w0 _ ?side1 ?side2 ?side3 ?side4 ?side5 ?side6 ?side7 ?side8 ?side9 ?side10 ?side11 A75.out).mono ?_); (case side1 => repeat (first | (with_reducible first | exact HB.out | apply zm | apply zj | apply zk | refine zi ?_ GE0.out | refine zi ?_ GE311.out) | exact HB.out)); (case side2 => exact zG106); (case side3 => exact GE0.out); (case side4 => exact zbj HR0_0.out zG80 (fun k_ hs_ => Or.elim hs_ (fun hs_ => Or.elim hs_ (fun e_ => (fun e_ => (Or.imp_left (fun z_ => (Or.inl z_)) ((HO_1002.out.1 k_ e_.symm).1.1))) e_) (fun e_ => (fun e_ => (Or.imp_left (fun z_ => (Or.inl z_)) ((HO_1003.out.1 k_ e_.symm).1.1))) e_)) (fun e_ => .inl (Or.inr e_)))); (case side5 => exact HC0_0.out); (case side6 => exact zbh rfl HO_1002.out); (case side7 => exact fun k_ e_ => (HO_1002.out.1 k_ e_.symm).1.2.1); (case side8 => exact zbh rfl HO_1003.out); (case side9 => exact fun k_ e_ => (HO_1003.out.1 k_ e_.symm).1.2.1); (case side10 => exact zbl ((zq HO321.out BK0.out zG126)) (fun k_ hk_ hs_ => Or.elim hs_ (fun hs_ => Or.elim hs_ (fun e_ => (hk_.1.2.1) e_) (fun e_ => (hk_.1.2.2.1) e_)) (fun e_ => (hk_.2) e_))); (case side11 => exact (zw HO321.out).2.1); rintro e w83 ⟨v323, v326, rfl, ho0, ho1, hz0, hb, hkp⟩; refine ⟨_, rfl, ?_⟩; have n_ := zA_ (za (zo (ok' := fun k_ => ((P0_2_ k_ ∨ P0_3_ k_) ∨ w.heap.size ≤ k_) ∧ some k_ ≠ (.slice Ao60 t305.length co60 : Value).ownBlock ∧ some k_ ≠ (.slice Ao82 y319.length co82 : Value).ownBlock ∧ some k_ ≠ (v323 : Value).ownBlock ∧ some k_ ≠ (v326 : Value).ownBlock) (zbi ((zq HO_312000.out BK0.out zG126)) hkp (fun k_ hk_ hs_ => Or.elim hs_ (fun hs_ => Or.elim hs_ (fun e_ => (hk_.1.1.2.1) e_) (fun e_ => (hk_.1.1.2.2.1) e_)) (fun e_ => (hk_.2) e_))) (fun k_ hk_ => ⟨hk_.1.1.1.1, hk_.1.1.1.2.2.2, hk_.1.1.2, fun e_ => Or.elim (ho0.1 k_ e_.symm).1 (fun hs_ => hk_.2.1 (Or.inl hs_)) (fun hn_ => Nat.not_le.2 hk_.2.2 hn_), fun e_ => Or.elim (ho1.1 k_ e_.symm).1 (fun hs_ => hk_.2.1 (Or.inl hs_)) (fun hn_ => Nat.not_le.2 hk_.2.2 hn_)⟩))) (zA_ (za (zo (ok' := fun k_ => ((P0_2_ k_ ∨ P0_3_ k_) ∨ w.heap.size ≤ k_) ∧ some k_ ≠ (.slice Ao58 t302.length co58 : Value).ownBlock ∧ some k_ ≠ (.slice Ao82 y319.length co82 : Value).ownBlock ∧ some k_ ≠ (v323 : Value).ownBlock ∧ some k_ ≠ (v326 : Value).ownBlock) (zbi ((zq HO_312001.out BK0.out zG126)) hkp (fun k_ hk_ hs_ => Or.elim hs_ (fun hs_ => Or.elim hs_ (fun e_ => (hk_.1.1.2.1) e_) (fun e_ => (hk_.1.1.2.2.1) e_)) (fun e_ => (hk_.2) e_))) (fun k_ hk_ => ⟨hk_.1.1.1.1, hk_.1.1.1.2.2.2, hk_.1.1.2, fun e_ => Or.elim (ho0.1 k_ e_.symm).1 (fun hs_ => hk_.2.1 (Or.inl hs_)) (fun hn_ => Nat.not_le.2 hk_.2.2 hn_), fun e_ => Or.elim (ho1.1 k_ e_.symm).1 (fun hs_ => hk_.2.1 (Or.inl hs_)) (fun hn_ => Nat.not_le.2 hk_.2.2 hn_)⟩))) (zA_ (za (hz0)) (zA_ (za (zbb zG96 hkp (fun hs_ => Or.elim hs_ (fun hs_ => Or.elim hs_ (fun e_ => (fun e_ => (zan HO_1002.out BK311.out zG126) e_) e_) (fun e_ => (fun e_ => (zan HO_1003.out BK311.out zG126) e_) e_)) (fun e_ => NB311_0.out e_)))) (zA_ (za (zo (ok' := fun k_ => ((P0_2_ k_ ∨ P0_3_ k_) ∨ w.heap.size ≤ k_) ∧ some k_ ≠ (.slice Ao58 t302.length co58 : Value).ownBlock ∧ some k_ ≠ (.slice Ao60 t305.length co60 : Value).ownBlock ∧ some k_ ≠ (v323 : Value).ownBlock ∧ some k_ ≠ (v326 : Value).ownBlock) (zbi ((zq HO321.out BK0.out zG126)) hkp (fun k_ hk_ hs_ => Or.elim hs_ (fun hs_ => Or.elim hs_ (fun e_ => (hk_.1.2.1) e_) (fun e_ => (hk_.1.2.2.1) e_)) (fun e_ => (hk_.2) e_))) (fun k_ hk_ => ⟨hk_.1.1.1, hk_.1.1.2.2.2.1, hk_.1.1.2.2.2.2, fun e_ => Or.elim (ho0.1 k_ e_.symm).1 (fun hs_ => hk_.2.1 (Or.inl hs_)) (fun hn_ => Nat.not_le.2 hk_.2.2 hn_), fun e_ => Or.elim (ho1.1 k_ e_.symm).1 (fun hs_ => hk_.2.1 (Or.inl hs_)) (fun hn_ => Nat.not_le.2 hk_.2.2 hn_)⟩))) (zA_ (za (zo (ok' := fun k_ => ((P0_2_ k_ ∨ P0_3_ k_) ∨ w.heap.size ≤ k_) ∧ some k_ ≠ (v326 : Value).ownBlock ∧ some k_ ≠ (.slice Ao58 t302.length co58 : Value).ownBlock ∧ some k_ ≠ (.slice Ao60 t305.length co60 : Value).ownBlock ∧ some k_ ≠ (.slice Ao82 y319.length co82 : Value).ownBlock) ho0 (fun k_ hk_ => ⟨Or.elim hk_.1 (fun hs_ => Or.elim hs_ (fun hs_ => (HO_1002.out.1 k_ (hs_).symm).1.1) (fun hs_ => (HO_1003.out.1 k_ (hs_).symm).1.1)) (fun hn_ => (.inr (Nat.le_trans zG77 hn_))), hk_.2, Or.elim hk_.1 (fun hs_ => Or.elim hs_ (fun hs_ => fun e_ => ((((zq HO_312000.out BK0.out zG126)).1 k_ e_.symm).1.1.2.1) hs_) (fun hs_ => fun e_ => ((((zq HO_312000.out BK0.out zG126)).1 k_ e_.symm).1.1.2.2.1) hs_)) (fun hn_ => (Kd.fresh' (zab zK195) k_ hn_)), Or.elim hk_.1 (fun hs_ => Or.elim hs_ (fun hs_ => fun e_ => ((((zq HO_312001.out BK0.out zG126)).1 k_ e_.symm).1.1.2.1) hs_) (fun hs_ => fun e_ => ((((zq HO_312001.out BK0.out zG126)).1 k_ e_.symm).1.1.2.2.1) hs_)) (fun hn_ => (Kd.fresh' (zab zK196) k_ hn_)), Or.elim hk_.1 (fun hs_ => Or.elim hs_ (fun hs_ => fun e_ => ((((zq HO321.out BK0.out zG126)).1 k_ e_.symm).1.2.1) hs_) (fun hs_ => fun e_ => ((((zq HO321.out BK0.out zG126)).1 k_ e_.symm).1.2.2.1) hs_)) (fun hn_ => (Kd.fresh' (zab (by (with_reducible repeat (first | apply zf | apply zg | apply zh)); exact HO321.out)) k_ hn_))⟩))) (zA_ (za (zo (ok' := fun k_ => ((P0_2_ k_ ∨ P0_3_ k_) ∨ w.heap.size ≤ k_) ∧ some k_ ≠ (v323 : Value).ownBlock ∧ some k_ ≠ (.slice Ao58 t302.length co58 : Value).ownBlock ∧ some k_ ≠ (.slice Ao60 t305.length co60 : Value).ownBlock ∧ some k_ ≠ (.slice Ao82 y319.length co82 : Value).ownBlock) ho1 (fun k_ hk_ => ⟨Or.elim hk_.1 (fun hs_ => Or.elim hs_ (fun hs_ => (HO_1002.out.1 k_ (hs_).symm).1.1) (fun hs_ => (HO_1003.out.1 k_ (hs_).symm).1.1)) (fun hn_ => (.inr (Nat.le_trans zG77 hn_))), hk_.2, Or.elim hk_.1 (fun hs_ => Or.elim hs_ (fun hs_ => fun e_ => ((((zq HO_312000.out BK0.out zG126)).1 k_ e_.symm).1.1.2.1) hs_) (fun hs_ => fun e_ => ((((zq HO_312000.out BK0.out zG126)).1 k_ e_.symm).1.1.2.2.1) hs_)) (fun hn_ => (Kd.fresh' (zab zK195) k_ hn_)), Or.elim hk_.1 (fun hs_ => Or.elim hs_ (fun hs_ => fun e_ => ((((zq HO_312001.out BK0.out zG126)).1 k_ e_.symm).1.1.2.1) hs_) (fun hs_ => fun e_ => ((((zq HO_312001.out BK0.out zG126)).1 k_ e_.symm).1.1.2.2.1) hs_)) (fun hn_ => (Kd.fresh' (zab zK196) k_ hn_)), Or.elim hk_.1 (fun hs_ => Or.elim hs_ (fun hs_ => fun e_ => ((((zq HO321.out BK0.out zG126)).1 k_ e_.symm).1.2.1) hs_) (fun hs_ => fun e_ => ((((zq HO321.out BK0.out zG126)).1 k_ e_.symm).1.2.2.1) hs_)) (fun hn_ => (Kd.fresh' (zab (by (with_reducible repeat (first | apply zf | apply zg | apply zh)); exact HO321.out)) k_ hn_))⟩))) (zA_ (za (Kept.then_ (S := (fun k_ => (P0_2_ k_ ∨ P0_3_ k_) ∨ k_ = gi0)) zG80 hkp (fun k_ hs_ => Or.elim hs_ (fun hs_ => Or.elim hs_ (fun e_ => (fun e_ => (Or.imp_left (fun z_ => (Or.inl z_)) ((HO_1002.out.1 k_ e_.symm).1.1))) e_) (fun e_ => (fun e_ => (Or.imp_left (fun z_ => (Or.inl z_)) ((HO_1003.out.1 k_ e_.symm).1.1))) e_)) (fun e_ => .inl (Or.inr e_))))) (za (hb))))))))); clear HO_312000 HO_312001 BK0 BK311 HO321 HK HB HO_1002 HO_1003; obtain ⟨HO_312000, HO_312001, BK0, BK311, HO321, HO324, HO327, HK, HB⟩ := n_; (try clear hb); (try clear hkp); (try clear ho0); (try clear ho1); (try clear hz0)))
      go_roundg k2
      case measure => have := HK1.out; have := HK2.out; omega
      case rel => exact ⟨(wrap64 (x6_1 + 1)), (t322), (t325), (t328), (t329), (t330), (v323), (v326), zG124, H', ⟨zH102⟩, ⟨by (with_reducible repeat (first | apply zf | apply zg | apply zh)); exact zo HO324.out (fun _ hk => ⟨hk.1, ⟨hk.2.1, ⟨hk.2.2.1, hk.2.2.2.1⟩⟩⟩)⟩, ⟨by (with_reducible repeat (first | apply zf | apply zg | apply zh)); exact zo HO327.out (fun _ hk => ⟨hk.1, ⟨hk.2.1, ⟨hk.2.2.1, hk.2.2.2.1⟩⟩⟩)⟩, ⟨by (with_reducible repeat (first | apply zf | apply zg | apply zh)); exact zo HO_312000.out (fun _ hk => ⟨hk.1, ⟨hk.2.2.2.1, ⟨hk.2.2.2.2, hk.2.1⟩⟩⟩)⟩, ⟨by (with_reducible repeat (first | apply zf | apply zg | apply zh)); exact zo HO_312001.out (fun _ hk => ⟨hk.1, ⟨hk.2.2.2.1, ⟨hk.2.2.2.2, hk.2.1⟩⟩⟩)⟩, ⟨zH91⟩, ⟨zH84⟩, ⟨zH33⟩, ⟨zH54⟩⟩
 rw [if_pos c5] at H
 have c5b0 : ((l1.length : Int) == (l0_0.length : Int)) = true := beq_iff_eq.mpr c5
 have c5b1 : ((l1.length : Int) != (l0_0.length : Int)) = false := bne_eq_false_iff_eq.mpr c5
 have c5b2 : (l1.length == l0_0.length) = true := by first | simpa using c5 | (simp at c5 ⊢; omega)
 clear c5
 by_cases c6 : a0_6 = true
 rotate_left
 ·replace c6 := Bool.eq_false_iff.mpr c6
  subst c6
  have H1 : (some (t302, t305, t308, t309, true)) = some (r1, r2, r3, r4, r5) := by rw [if_neg (show ¬ (false = true) by decide)] at H; exact H
  clear H
  have H := H1
  clear H1
  simp only [Option.some.injEq, Prod.mk.injEq] at H
  obtain ⟨rfl, rfl, rfl, rfl, rfl⟩ := H
  go_enter Try.func69, Try.ntmps69
  try go_wp2
  obtain ⟨n0_, n1_, n2_, n3_, n4_⟩ := zD5 (zh HO0_2.out) (zh HO0_3.out) (ze BK0.out) (Kept.drew HK.out) (zk HB.out)
  clear HO0_2 HO0_3 BK0 HK HB
  have HO0_2 := n0_
  have HO0_3 := n1_
  have BK0 := n2_
  have HK := n3_
  have HB := n4_
  clear n0_ n1_ n2_ n3_ n4_
  refine start_ (n := 16) (S := fun w' => w'.cell? ⟨gi0, 0, none⟩ = some (.slice A0_0 l0_0.length c0_0) ∧ w'.cell? ⟨gi0, 1, none⟩ = some (.int .i64 a0_1) ∧ w'.cell? ⟨gi0, 2, none⟩ = some (u9000_) ∧ w'.cell? ⟨gi0, 3, none⟩ = some (u9001_) ∧ w'.cell? ⟨gi0, 4, none⟩ = some (.int .i64 a0_4) ∧ w'.cell? ⟨gi0, 5, none⟩ = some (.int .i64 a0_5) ∧ w'.cell? ⟨gi0, 6, none⟩ = some (.bool false)) (ds := []) b6A1 zG125 rfl rfl ⟨(zl BK0.out 0).trans rfl, (zl BK0.out 1).trans rfl, (zl BK0.out 2).trans rfl, (zl BK0.out 3).trans rfl, (zl BK0.out 4).trans rfl, (zl BK0.out 5).trans rfl, (zl BK0.out 6).trans rfl⟩ (fun hHeld => ?_); refine with_tabW spec_l20Search_try.tab0 spec_l20Search_try.bits0 (fun HT_ HW_ => ?_)
  generalize w.drew = w38 at HO0_2 HO0_3 BK0 HK HB hHeld ⊢
  refine zP 0 10 b6A2 HT_ ?_
  refine zP 1 11 b6A3 HT_ ?_
  refine zP 2 12 b6A4 HT_ ?_
  refine zP 4 14 b6A5 HT_ ?_
  refine zP 5 15 b6A6 HT_ ?_
  refine zP 6 16 b6A7 HT_ ?_
  refine zP 8 18 b6A8 HT_ ?_
  refine zQ 3 13 b6A9 HT_ HW_ hHeld ?_
  refine zQ 7 17 b6A10 HT_ HW_ hHeld ?_
  refine join_ (σ := Value × Value × Nat) 2 b6A0 (fun s_ => [(19, .tuple #[.agg #[s_.1, s_.2.1, .int .i64 t308, .int .i64 t309], .bool true]), (4, .pointer (some ⟨s_.2.2, 0, none⟩)), (9, .tuple #[.agg #[s_.1, s_.2.1, .int .i64 t308, .int .i64 t309], .bool true]), (20, .agg #[s_.1, s_.2.1, .int .i64 t308, .int .i64 t309]), (21, .bool true)]) (fun s_ w' => (w'.cell? ⟨gi0, 0, none⟩ = some (.slice A0_0 l0_0.length c0_0) ∧ w'.cell? ⟨gi0, 1, none⟩ = some (.int .i64 a0_1) ∧ w'.cell? ⟨gi0, 2, none⟩ = some (u9000_) ∧ w'.cell? ⟨gi0, 3, none⟩ = some (u9001_) ∧ w'.cell? ⟨gi0, 4, none⟩ = some (.int .i64 a0_4) ∧ w'.cell? ⟨gi0, 5, none⟩ = some (.int .i64 a0_5) ∧ w'.cell? ⟨gi0, 6, none⟩ = some (.bool false)) ∧ (Kd.R (Kd.int .i64) 3 w' w0.heap.size (fun k_ => ((P0_2_ k_ ∨ P0_3_ k_) ∨ w.heap.size ≤ k_) ∧ some k_ ≠ (u9001_ : Value).ownBlock ∧ some k_ ≠ (s_.1 : Value).ownBlock ∧ some k_ ≠ (s_.2.1 : Value).ownBlock) u9000_ l0_2) ∧ (Kd.R (Kd.int .i64) 3 w' w0.heap.size (fun k_ => ((P0_2_ k_ ∨ P0_3_ k_) ∨ w.heap.size ≤ k_) ∧ some k_ ≠ (u9000_ : Value).ownBlock ∧ some k_ ≠ (s_.1 : Value).ownBlock ∧ some k_ ≠ (s_.2.1 : Value).ownBlock) u9001_ l0_3) ∧ (Kd.R (Kd.int .i64) 3 w' w0.heap.size (fun k_ => ((P0_2_ k_ ∨ P0_3_ k_) ∨ w.heap.size ≤ k_) ∧ some k_ ≠ (u9000_ : Value).ownBlock ∧ some k_ ≠ (u9001_ : Value).ownBlock ∧ some k_ ≠ (s_.2.1 : Value).ownBlock) s_.1 t302) ∧ (Kd.R (Kd.int .i64) 3 w' w0.heap.size (fun k_ => ((P0_2_ k_ ∨ P0_3_ k_) ∨ w.heap.size ≤ k_) ∧ some k_ ≠ (u9000_ : Value).ownBlock ∧ some k_ ≠ (u9001_ : Value).ownBlock ∧ some k_ ≠ (s_.1 : Value).ownBlock) s_.2.1 t305) ∧ (w'.heap[gi0]? = some (.cells #[.slice A0_0 l0_0.length c0_0, .int .i64 a0_1, u9000_, u9001_, .int .i64 a0_4, .int .i64 a0_5, .bool false] 113 (0, 0))) ∧ (w'.heap[s_.2.2]? = some (.cells #[.slice none 0 0, .slice none 0 0, .int .i64 0, .int .i64 0] 28 (0, 0))) ∧ (w.heap.size ≤ s_.2.2) ∧ (w0.heap.size ≤ s_.2.2) ∧ (gi0 ≠ s_.2.2) ∧ (s_.2.2 ≠ gi0) ∧ (Kept w w' (fun k_ => (P0_2_ k_ ∨ P0_3_ k_) ∨ k_ = gi0)) ∧ (Below w0.heap.size w0 w')) ?_ ?_
  rotate_left
  ·intro hCont
   refine two_ (i := 9) (j := 13) (Ni := some 19) (Nj := some 4) b6A11 b6A12 rfl rfl rfl rfl (two_of HT_.out zG125) zG126 zG126 (fun K hK => ?_) (fun K hK => ?_)
   ·skip
    refine goes_ Try.func123 zG125 rfl #[.slice A0_0 l0_0.length c0_0, .int .i64 a0_1, .slice A1 l1.length c1] (by rfl) rfl rfl zG87 ?_
    with_reducible refine (spec_l20Route.calls k _ _ l0_0 a0_1 _ _ l1 t302 t305 t308 t309 true _ ?side1 ?side2 ?side3 ?side4 A3.out).mono ?_
    (case side1 => exact zaj HR0_0.out zG84)
    (case side2 => exact HC0_0.out)
    (case side3 => exact zaj HR1.out zG84)
    (case side4 => exact HC1.out)
    rintro e w39 ⟨v303, v306, rfl, ho0, ho1, hb⟩
    refine ⟨_, rfl, ?_⟩
    obtain ⟨n0_, n1_, n2_, n3_, n4_, n5_, n6_⟩ := zD7 (zo (zaa (zaa (zaf zG117 hb) (zy ho0)) (zy ho1)) (fun _ h_ => h_.1)) (zo (zaa (zaa (zaf zG118 hb) (zy ho0)) (zy ho1)) (fun _ h_ => h_.1)) (zae (zz (zz (zap (M := fun k_ => ((P0_2_ k_ ∨ P0_3_ k_) ∨ w.heap.size ≤ k_)) ho0 zG78 (fun k_ h_ => .inr h_)) (zab zG117)) (zab zG118)) (zt zG94)) (zae (zz (zz (zap (M := fun k_ => ((P0_2_ k_ ∨ P0_3_ k_) ∨ w.heap.size ≤ k_)) ho1 zG78 (fun k_ h_ => .inr h_)) (zab zG117)) (zab zG118)) (zt zG94)) (zs (g := gi0) (o := .cells #[.slice A0_0 l0_0.length c0_0, .int .i64 a0_1, u9000_, u9001_, .int .i64 a0_4, .int .i64 a0_5, .bool false] 113 (0, 0)) zG106 hb) (Kept.below (S := (fun k_ => (P0_2_ k_ ∨ P0_3_ k_) ∨ k_ = gi0)) zG84 hb) (zv zG94 hb)
    clear HO0_2 HO0_3 BK0 HK HB
    have HO0_2 := n0_
    have HO0_3 := n1_
    have HO304 := n2_
    have HO307 := n3_
    have BK0 := n4_
    have HK := n5_
    have HB := n6_
    clear n0_ n1_ n2_ n3_ n4_ n5_ n6_
    (try clear hb)
    (try clear hb2)
    (try clear hk)
    (try clear hi)
    (try clear ho0)
    (try clear ho1)
    refine hK.out _ _ ⟨(zl BK0.out 0).trans rfl, (zl BK0.out 1).trans rfl, (zl BK0.out 2).trans rfl, (zl BK0.out 3).trans rfl, (zl BK0.out 4).trans rfl, (zl BK0.out 5).trans rfl, (zl BK0.out 6).trans rfl⟩ (fun hHeld => ?_)
    clear hK K
    refine norm_ (a' := ?_) ?_ ?_
    rotate_left
    ·show Act.put _ (some 19) _ = _
     simp only [Act.put, List.setIfInBounds_toArray, List.set_cons_zero, List.set_cons_succ, i64_w, i32_w]
     rfl
    refine zP 10 9 b6A13 HT_ ?_
    refine zP 11 20 b6A14 HT_ ?_
    refine zP 12 21 b6A15 HT_ ?_
    refine one_ (i := 13) (N := some 4) b6A0 rfl rfl (one_of HT_.out zG125) zG126 (fun K hK => ?_)
    refine box_step ?hg (N := 4) ?hd (cs := #[.slice none 0 0, .slice none 0 0, .int .i64 0, .int .i64 0]) (t := 28) ?hr ?_; (case hd => rfl); (case hg => rfl); (case hr => exact zH103)
    intro gb311 hg w40 hbox hb
    obtain ⟨n0_, n1_, n2_, n3_, n4_, n5_, n6_, n7_, n8_, n9_, n10_, n11_⟩ := zD12 (zp zG117 hb) (zp zG118 hb) (zp zK203 hb) (zp zK204 hb) (zs (g := gi0) (o := .cells #[.slice A0_0 l0_0.length c0_0, .int .i64 a0_1, u9000_, u9001_, .int .i64 a0_4, .int .i64 a0_5, .bool false] 113 (0, 0)) zG106 hb) (Kept.below (S := (fun k_ => (P0_2_ k_ ∨ P0_3_ k_) ∨ k_ = gi0)) zG84 hb) (zv zG94 hb) (hbox) ((by rw [hg]; exact zG78 : w.heap.size ≤ gb311)) ((by rw [hg]; exact (zt zG94) : w0.heap.size ≤ gb311)) ((by rw [hg]; exact Nat.ne_of_lt (zac (g := gi0) (o := .cells #[.slice A0_0 l0_0.length c0_0, .int .i64 a0_1, u9000_, u9001_, .int .i64 a0_4, .int .i64 a0_5, .bool false] 113 (0, 0)) zG106) : gi0 ≠ gb311)) ((by rw [hg]; exact Nat.ne_of_gt (zac (g := gi0) (o := .cells #[.slice A0_0 l0_0.length c0_0, .int .i64 a0_1, u9000_, u9001_, .int .i64 a0_4, .int .i64 a0_5, .bool false] 113 (0, 0)) zG106) : gb311 ≠ gi0))
    clear HO0_2 HO0_3 HO304 HO307 BK0 HK HB
    have HO0_2 := n0_
    have HO0_3 := n1_
    have HO304 := n2_
    have HO307 := n3_
    have BK0 := n4_
    have HK := n5_
    have HB := n6_
    have BK311 := n7_
    have GW311 := n8_
    have GE311 := n9_
    have NB0_311 := n10_
    have NB311_0 := n11_
    clear n0_ n1_ n2_ n3_ n4_ n5_ n6_ n7_ n8_ n9_ n10_ n11_
    clear hb hbox hg
    refine hK.out _ _ ⟨(zl BK0.out 0).trans rfl, (zl BK0.out 1).trans rfl, (zl BK0.out 2).trans rfl, (zl BK0.out 3).trans rfl, (zl BK0.out 4).trans rfl, (zl BK0.out 5).trans rfl, (zl BK0.out 6).trans rfl⟩ (fun hHeld => ?_)
    clear hK K
    refine norm_ (a' := ?_) ?_ ?_
    rotate_left
    ·show Act.put _ (some 4) _ = _
     simp only [Act.put, List.setIfInBounds_toArray, List.set_cons_zero, List.set_cons_succ, i64_w, i32_w]
     rfl
    exact norm_ zK190 (hCont (v303, v306, gb311) _ ⟨hHeld, zG88, zG89, zG90, zG91, zG106, zG96, GW311.out, GE311.out, NB0_311.out, NB311_0.out, zG80, zG86⟩)
   ·skip
    refine box_step ?hg (N := 4) ?hd (cs := #[.slice none 0 0, .slice none 0 0, .int .i64 0, .int .i64 0]) (t := 28) ?hr ?_; (case hd => rfl); (case hg => rfl); (case hr => exact zH103)
    intro gb311 hg w39 hbox hb
    obtain ⟨n0_, n1_, n2_, n3_, n4_, n5_, n6_, n7_, n8_, n9_⟩ := zD10 (zp zG117 hb) (zp zG118 hb) (zs (g := gi0) (o := .cells #[.slice A0_0 l0_0.length c0_0, .int .i64 a0_1, u9000_, u9001_, .int .i64 a0_4, .int .i64 a0_5, .bool false] 113 (0, 0)) zG106 hb) (Kept.below (S := (fun k_ => (P0_2_ k_ ∨ P0_3_ k_) ∨ k_ = gi0)) zG84 hb) (zv zG94 hb) (hbox) ((by rw [hg]; exact zG78 : w.heap.size ≤ gb311)) ((by rw [hg]; exact (zt zG94) : w0.heap.size ≤ gb311)) ((by rw [hg]; exact Nat.ne_of_lt (zac (g := gi0) (o := .cells #[.slice A0_0 l0_0.length c0_0, .int .i64 a0_1, u9000_, u9001_, .int .i64 a0_4, .int .i64 a0_5, .bool false] 113 (0, 0)) zG106) : gi0 ≠ gb311)) ((by rw [hg]; exact Nat.ne_of_gt (zac (g := gi0) (o := .cells #[.slice A0_0 l0_0.length c0_0, .int .i64 a0_1, u9000_, u9001_, .int .i64 a0_4, .int .i64 a0_5, .bool false] 113 (0, 0)) zG106) : gb311 ≠ gi0))
    clear HO0_2 HO0_3 BK0 HK HB
    have HO0_2 := n0_
    have HO0_3 := n1_
    have BK0 := n2_
    have HK := n3_
    have HB := n4_
    have BK311 := n5_
    have GW311 := n6_
    have GE311 := n7_
    have NB0_311 := n8_
    have NB311_0 := n9_
    clear n0_ n1_ n2_ n3_ n4_ n5_ n6_ n7_ n8_ n9_
    clear hb hbox hg
    refine hK.out _ _ ⟨(zl BK0.out 0).trans rfl, (zl BK0.out 1).trans rfl, (zl BK0.out 2).trans rfl, (zl BK0.out 3).trans rfl, (zl BK0.out 4).trans rfl, (zl BK0.out 5).trans rfl, (zl BK0.out 6).trans rfl⟩ (fun hHeld => ?_)
    clear hK K
    refine norm_ (a' := ?_) ?_ ?_
    rotate_left
    ·show Act.put _ (some 4) _ = _
     simp only [Act.put, List.setIfInBounds_toArray, List.set_cons_zero, List.set_cons_succ, i64_w, i32_w]
     rfl
    refine one_ (i := 9) (N := some 19) b6A16 rfl rfl (one_of HT_.out zG125) zG126 (fun K hK => ?_)
    refine goes_ Try.func123 zG125 rfl #[.slice A0_0 l0_0.length c0_0, .int .i64 a0_1, .slice A1 l1.length c1] (by rfl) rfl rfl zG87 ?_
    with_reducible refine (spec_l20Route.calls k _ _ l0_0 a0_1 _ _ l1 t302 t305 t308 t309 true _ ?side1 ?side2 ?side3 ?side4 A3.out).mono ?_
    (case side1 => exact zaj HR0_0.out zG80)
    (case side2 => exact HC0_0.out)
    (case side3 => exact zaj HR1.out zG80)
    (case side4 => exact HC1.out)
    rintro e w40 ⟨v303, v306, rfl, ho0, ho1, hb⟩
    refine ⟨_, rfl, ?_⟩
    obtain ⟨n0_, n1_, n2_, n3_, n4_, n5_, n6_, n7_⟩ := zD8 (zo (zaa (zaa (zaf zG117 hb) (zy ho0)) (zy ho1)) (fun _ h_ => h_.1)) (zo (zaa (zaa (zaf zG118 hb) (zy ho0)) (zy ho1)) (fun _ h_ => h_.1)) (zae (zz (zz (zap (M := fun k_ => ((P0_2_ k_ ∨ P0_3_ k_) ∨ w.heap.size ≤ k_)) ho0 zG77 (fun k_ h_ => .inr h_)) (zab zG117)) (zab zG118)) (zt zG86)) (zae (zz (zz (zap (M := fun k_ => ((P0_2_ k_ ∨ P0_3_ k_) ∨ w.heap.size ≤ k_)) ho1 zG77 (fun k_ h_ => .inr h_)) (zab zG117)) (zab zG118)) (zt zG86)) (zs (g := gi0) (o := .cells #[.slice A0_0 l0_0.length c0_0, .int .i64 a0_1, u9000_, u9001_, .int .i64 a0_4, .int .i64 a0_5, .bool false] 113 (0, 0)) zG106 hb) (zs (g := gb311) (o := .cells #[.slice none 0 0, .slice none 0 0, .int .i64 0, .int .i64 0] 28 (0, 0)) zG96 hb) (Kept.below (S := (fun k_ => (P0_2_ k_ ∨ P0_3_ k_) ∨ k_ = gi0)) zG80 hb) (zv zG86 hb)
    clear HO0_2 HO0_3 BK0 BK311 HK HB
    have HO0_2 := n0_
    have HO0_3 := n1_
    have HO304 := n2_
    have HO307 := n3_
    have BK0 := n4_
    have BK311 := n5_
    have HK := n6_
    have HB := n7_
    clear n0_ n1_ n2_ n3_ n4_ n5_ n6_ n7_
    (try clear hb)
    (try clear hb2)
    (try clear hk)
    (try clear hi)
    (try clear ho0)
    (try clear ho1)
    refine hK.out _ _ ⟨(zl BK0.out 0).trans rfl, (zl BK0.out 1).trans rfl, (zl BK0.out 2).trans rfl, (zl BK0.out 3).trans rfl, (zl BK0.out 4).trans rfl, (zl BK0.out 5).trans rfl, (zl BK0.out 6).trans rfl⟩ (fun hHeld => ?_)
    clear hK K
    refine norm_ (a' := ?_) ?_ ?_
    rotate_left
    ·show Act.put _ (some 19) _ = _
     simp only [Act.put, List.setIfInBounds_toArray, List.set_cons_zero, List.set_cons_succ, i64_w, i32_w]
     rfl
    refine zP 10 9 b6A17 HT_ ?_
    refine zP 11 20 b6A18 HT_ ?_
    refine zP 12 21 b6A0 HT_ ?_
    exact norm_ zK190 (hCont (v303, v306, gb311) _ ⟨hHeld, zG88, zG89, zG90, zG91, zG106, zG96, GW311.out, GE311.out, NB0_311.out, NB311_0.out, zG80, zG86⟩)
  rintro ⟨v303, v306, gb311⟩ w41 ⟨hS_, h0_, h1_, h2_, h3_, h4_, h5_, h6_, h7_, h8_, h9_, h10_, h11_⟩
  have n0_ : Aside0 (Kd.R (Kd.int .i64) 3 w41 w0.heap.size (fun k_ => ((P0_2_ k_ ∨ P0_3_ k_) ∨ w.heap.size ≤ k_) ∧ some k_ ≠ (u9001_ : Value).ownBlock ∧ some k_ ≠ (v303 : Value).ownBlock ∧ some k_ ≠ (v306 : Value).ownBlock) u9000_ l0_2) := ⟨h0_⟩
  have n1_ : Aside0 (Kd.R (Kd.int .i64) 3 w41 w0.heap.size (fun k_ => ((P0_2_ k_ ∨ P0_3_ k_) ∨ w.heap.size ≤ k_) ∧ some k_ ≠ (u9000_ : Value).ownBlock ∧ some k_ ≠ (v303 : Value).ownBlock ∧ some k_ ≠ (v306 : Value).ownBlock) u9001_ l0_3) := ⟨h1_⟩
  have n2_ : Aside0 (Kd.R (Kd.int .i64) 3 w41 w0.heap.size (fun k_ => ((P0_2_ k_ ∨ P0_3_ k_) ∨ w.heap.size ≤ k_) ∧ some k_ ≠ (u9000_ : Value).ownBlock ∧ some k_ ≠ (u9001_ : Value).ownBlock ∧ some k_ ≠ (v306 : Value).ownBlock) v303 t302) := ⟨h2_⟩
  have n3_ : Aside0 (Kd.R (Kd.int .i64) 3 w41 w0.heap.size (fun k_ => ((P0_2_ k_ ∨ P0_3_ k_) ∨ w.heap.size ≤ k_) ∧ some k_ ≠ (u9000_ : Value).ownBlock ∧ some k_ ≠ (u9001_ : Value).ownBlock ∧ some k_ ≠ (v303 : Value).ownBlock) v306 t305) := ⟨h3_⟩
  have n4_ : Aside0 (w41.heap[gi0]? = some (.cells #[.slice A0_0 l0_0.length c0_0, .int .i64 a0_1, u9000_, u9001_, .int .i64 a0_4, .int .i64 a0_5, .bool false] 113 (0, 0))) := ⟨h4_⟩
  have n5_ : Aside0 (w41.heap[gb311]? = some (.cells #[.slice none 0 0, .slice none 0 0, .int .i64 0, .int .i64 0] 28 (0, 0))) := ⟨h5_⟩
  have n6_ : Aside0 (w.heap.size ≤ gb311) := ⟨h6_⟩
  have n7_ : Aside0 (w0.heap.size ≤ gb311) := ⟨h7_⟩
  have n8_ : Aside0 (gi0 ≠ gb311) := ⟨h8_⟩
  have n9_ : Aside0 (gb311 ≠ gi0) := ⟨h9_⟩
  have n10_ : Aside0 (Kept w w41 (fun k_ => (P0_2_ k_ ∨ P0_3_ k_) ∨ k_ = gi0)) := ⟨h10_⟩
  have n11_ : Aside0 (Below w0.heap.size w0 w41) := ⟨h11_⟩
  clear HO0_2
  clear HO0_3
  clear BK0
  clear HK
  clear HB
  clear h0_ h1_ h2_ h3_ h4_ h5_ h6_ h7_ h8_ h9_ h10_ h11_
  have HO0_2 := n0_
  have HO0_3 := n1_
  have HO304 := n2_
  have HO307 := n3_
  have BK0 := n4_
  have BK311 := n5_
  have GW311 := n6_
  have GE311 := n7_
  have NB0_311 := n8_
  have NB311_0 := n9_
  have HK := n10_
  have HB := n11_
  clear n0_ n1_ n2_ n3_ n4_ n5_ n6_ n7_ n8_ n9_ n10_ n11_
  have hHeld : w41.cell? ⟨gi0, 0, none⟩ = some (.slice A0_0 l0_0.length c0_0) ∧ w41.cell? ⟨gi0, 1, none⟩ = some (.int .i64 a0_1) ∧ w41.cell? ⟨gi0, 2, none⟩ = some (u9000_) ∧ w41.cell? ⟨gi0, 3, none⟩ = some (u9001_) ∧ w41.cell? ⟨gi0, 4, none⟩ = some (.int .i64 a0_4) ∧ w41.cell? ⟨gi0, 5, none⟩ = some (.int .i64 a0_5) ∧ w41.cell? ⟨gi0, 6, none⟩ = some (.bool false) := hS_
  obtain ⟨Ao42, co42, eo42⟩ := zad HO304.out
  (first | subst eo42 | (injection eo42 with f1_ f2_ f3_; have f4_ := f1_.symm; have f5_ := f3_.symm; clear f1_ f2_ f3_; subst f4_; subst f5_))
  obtain ⟨Ao44, co44, eo44⟩ := zad HO307.out
  (first | subst eo44 | (injection eo44 with f1_ f2_ f3_; have f4_ := f1_.symm; have f5_ := f3_.symm; clear f1_ f2_ f3_; subst f4_; subst f5_))
  refine norm_ (a' := ?_) ?_ ?_
  rotate_left
  ·simp only [putAll, Act.put, List.setIfInBounds_toArray, List.set_cons_zero, List.set_cons_succ]
   rfl
  refine one_ (i := 14) (N := none) b6A19 rfl rfl (one_of HT_.out zG125) zG126 (fun K hK => ?_)
  have hs43 : w41.cell? ⟨gb311, 0, none⟩ = some (.slice none 0 0) := (zl BK311.out 0).trans rfl
  have hfs43 := zn BK311.out 0
  have hns43_0 := NB0_311.out
  have hms43_0 := NB311_0.out
  have hs45 : w41.cell? ⟨gb311, 1, none⟩ = some (.slice none 0 0) := (zl BK311.out 1).trans rfl
  have hfs45 := zn BK311.out 1
  have hns45_0 := NB0_311.out
  have hms45_0 := NB311_0.out
  have hs46 : w41.cell? ⟨gb311, 2, none⟩ = some (.int .i64 0) := (zl BK311.out 2).trans rfl
  have hfs46 := zn BK311.out 2
  have hns46_0 := NB0_311.out
  have hms46_0 := NB311_0.out
  have hs47 : w41.cell? ⟨gb311, 3, none⟩ = some (.int .i64 0) := (zl BK311.out 3).trans rfl
  have hfs47 := zn BK311.out 3
  have hns47_0 := NB0_311.out
  have hms47_0 := NB311_0.out
  refine skip_ (w1 := ?_) (by rfl) rfl ?_ ?_
  rotate_left
  ·go_simp
   rfl
  refine hK.out _ _ ⟨((cell_far (p := ⟨gb311, _, none⟩) NB0_311.out _).trans (((cell_far (p := ⟨gb311, _, none⟩) NB0_311.out _).trans (((cell_far (p := ⟨gb311, _, none⟩) NB0_311.out _).trans (((cell_far (p := ⟨gb311, _, none⟩) NB0_311.out _).trans (hHeld.1)))))))), ((cell_far (p := ⟨gb311, _, none⟩) NB0_311.out _).trans (((cell_far (p := ⟨gb311, _, none⟩) NB0_311.out _).trans (((cell_far (p := ⟨gb311, _, none⟩) NB0_311.out _).trans (((cell_far (p := ⟨gb311, _, none⟩) NB0_311.out _).trans (hHeld.2.1)))))))), ((cell_far (p := ⟨gb311, _, none⟩) NB0_311.out _).trans (((cell_far (p := ⟨gb311, _, none⟩) NB0_311.out _).trans (((cell_far (p := ⟨gb311, _, none⟩) NB0_311.out _).trans (((cell_far (p := ⟨gb311, _, none⟩) NB0_311.out _).trans (hHeld.2.2.1)))))))), ((cell_far (p := ⟨gb311, _, none⟩) NB0_311.out _).trans (((cell_far (p := ⟨gb311, _, none⟩) NB0_311.out _).trans (((cell_far (p := ⟨gb311, _, none⟩) NB0_311.out _).trans (((cell_far (p := ⟨gb311, _, none⟩) NB0_311.out _).trans (hHeld.2.2.2.1)))))))), ((cell_far (p := ⟨gb311, _, none⟩) NB0_311.out _).trans (((cell_far (p := ⟨gb311, _, none⟩) NB0_311.out _).trans (((cell_far (p := ⟨gb311, _, none⟩) NB0_311.out _).trans (((cell_far (p := ⟨gb311, _, none⟩) NB0_311.out _).trans (hHeld.2.2.2.2.1)))))))), ((cell_far (p := ⟨gb311, _, none⟩) NB0_311.out _).trans (((cell_far (p := ⟨gb311, _, none⟩) NB0_311.out _).trans (((cell_far (p := ⟨gb311, _, none⟩) NB0_311.out _).trans (((cell_far (p := ⟨gb311, _, none⟩) NB0_311.out _).trans (hHeld.2.2.2.2.2.1)))))))), ((cell_far (p := ⟨gb311, _, none⟩) NB0_311.out _).trans (((cell_far (p := ⟨gb311, _, none⟩) NB0_311.out _).trans (((cell_far (p := ⟨gb311, _, none⟩) NB0_311.out _).trans (((cell_far (p := ⟨gb311, _, none⟩) NB0_311.out _).trans (hHeld.2.2.2.2.2.2))))))))⟩ (fun hHeld => ?_)
  clear hK K
  refine zP 15 5 b6A20 HT_ ?_
  refine done_ (done_of HT_.out zG125) ?_
  have hnb48 := NB0_311.out
  have hnc48 := NB311_0.out
  obtain ⟨hcz49_0, hcz49_1, hcz49_2, hcz49_3, hcz49_4, hcz49_5, hcz49_6, hfz49_0, hfz49_1, hfz49_2, hfz49_3, hfz49_4, hfz49_5, hfz49_6⟩ := zB7 BK0.out
  try go_wp2
  have n0_ : Aside0 (Kd.R (Kd.int .i64) 3 ((((w41.setCell ⟨gb311, 0, none⟩ (.slice Ao42 t302.length co42)).setCell ⟨gb311, 1, none⟩ (.slice Ao44 t305.length co44)).setCell ⟨gb311, 2, none⟩ (.int .i64 t308)).setCell ⟨gb311, 3, none⟩ (.int .i64 t309)) w0.heap.size (fun k_ => ((P0_2_ k_ ∨ P0_3_ k_) ∨ w.heap.size ≤ k_) ∧ some k_ ≠ (u9001_ : Value).ownBlock ∧ some k_ ≠ (.slice Ao42 t302.length co42 : Value).ownBlock ∧ some k_ ≠ (.slice Ao44 t305.length co44 : Value).ownBlock) u9000_ l0_2) := ⟨by (with_reducible repeat (first | apply zf | apply zg | apply zh)); exact zo (zd (p := ⟨gb311, 3, none⟩) (zd (p := ⟨gb311, 2, none⟩) (zd (p := ⟨gb311, 1, none⟩) (zd (p := ⟨gb311, 0, none⟩) (zq HO0_2.out BK311.out zG126) (fun _ hk => hk.2) (.slice Ao42 t302.length co42)) (fun _ hk => hk.2) (.slice Ao44 t305.length co44)) (fun _ hk => hk.2) (.int .i64 t308)) (fun _ hk => hk.2) (.int .i64 t309)) (fun _ hk => ⟨hk.1.1, ⟨hk.1.2.1, ⟨hk.1.2.2.1, hk.1.2.2.2⟩⟩⟩)⟩
  have n1_ : Aside0 (Kd.R (Kd.int .i64) 3 ((((w41.setCell ⟨gb311, 0, none⟩ (.slice Ao42 t302.length co42)).setCell ⟨gb311, 1, none⟩ (.slice Ao44 t305.length co44)).setCell ⟨gb311, 2, none⟩ (.int .i64 t308)).setCell ⟨gb311, 3, none⟩ (.int .i64 t309)) w0.heap.size (fun k_ => ((P0_2_ k_ ∨ P0_3_ k_) ∨ w.heap.size ≤ k_) ∧ some k_ ≠ (u9000_ : Value).ownBlock ∧ some k_ ≠ (.slice Ao42 t302.length co42 : Value).ownBlock ∧ some k_ ≠ (.slice Ao44 t305.length co44 : Value).ownBlock) u9001_ l0_3) := ⟨by (with_reducible repeat (first | apply zf | apply zg | apply zh)); exact zo (zd (p := ⟨gb311, 3, none⟩) (zd (p := ⟨gb311, 2, none⟩) (zd (p := ⟨gb311, 1, none⟩) (zd (p := ⟨gb311, 0, none⟩) (zq HO0_3.out BK311.out zG126) (fun _ hk => hk.2) (.slice Ao42 t302.length co42)) (fun _ hk => hk.2) (.slice Ao44 t305.length co44)) (fun _ hk => hk.2) (.int .i64 t308)) (fun _ hk => hk.2) (.int .i64 t309)) (fun _ hk => ⟨hk.1.1, ⟨hk.1.2.1, ⟨hk.1.2.2.1, hk.1.2.2.2⟩⟩⟩)⟩
  have n2_ : Aside0 (Kd.R (Kd.int .i64) 3 ((((w41.setCell ⟨gb311, 0, none⟩ (.slice Ao42 t302.length co42)).setCell ⟨gb311, 1, none⟩ (.slice Ao44 t305.length co44)).setCell ⟨gb311, 2, none⟩ (.int .i64 t308)).setCell ⟨gb311, 3, none⟩ (.int .i64 t309)) w0.heap.size (fun k_ => ((P0_2_ k_ ∨ P0_3_ k_) ∨ w.heap.size ≤ k_) ∧ some k_ ≠ (u9000_ : Value).ownBlock ∧ some k_ ≠ (u9001_ : Value).ownBlock ∧ some k_ ≠ (.slice Ao44 t305.length co44 : Value).ownBlock) (.slice Ao42 t302.length co42) t302) := ⟨by (with_reducible repeat (first | apply zf | apply zg | apply zh)); exact zo (zd (p := ⟨gb311, 3, none⟩) (zd (p := ⟨gb311, 2, none⟩) (zd (p := ⟨gb311, 1, none⟩) (zd (p := ⟨gb311, 0, none⟩) (zq HO304.out BK311.out zG126) (fun _ hk => hk.2) (.slice Ao42 t302.length co42)) (fun _ hk => hk.2) (.slice Ao44 t305.length co44)) (fun _ hk => hk.2) (.int .i64 t308)) (fun _ hk => hk.2) (.int .i64 t309)) (fun _ hk => ⟨hk.1.1, ⟨hk.1.2.1, ⟨hk.1.2.2.1, hk.1.2.2.2⟩⟩⟩)⟩
  have n3_ : Aside0 (Kd.R (Kd.int .i64) 3 ((((w41.setCell ⟨gb311, 0, none⟩ (.slice Ao42 t302.length co42)).setCell ⟨gb311, 1, none⟩ (.slice Ao44 t305.length co44)).setCell ⟨gb311, 2, none⟩ (.int .i64 t308)).setCell ⟨gb311, 3, none⟩ (.int .i64 t309)) w0.heap.size (fun k_ => ((P0_2_ k_ ∨ P0_3_ k_) ∨ w.heap.size ≤ k_) ∧ some k_ ≠ (u9000_ : Value).ownBlock ∧ some k_ ≠ (u9001_ : Value).ownBlock ∧ some k_ ≠ (.slice Ao42 t302.length co42 : Value).ownBlock) (.slice Ao44 t305.length co44) t305) := ⟨by (with_reducible repeat (first | apply zf | apply zg | apply zh)); exact zo (zd (p := ⟨gb311, 3, none⟩) (zd (p := ⟨gb311, 2, none⟩) (zd (p := ⟨gb311, 1, none⟩) (zd (p := ⟨gb311, 0, none⟩) (zq HO307.out BK311.out zG126) (fun _ hk => hk.2) (.slice Ao42 t302.length co42)) (fun _ hk => hk.2) (.slice Ao44 t305.length co44)) (fun _ hk => hk.2) (.int .i64 t308)) (fun _ hk => hk.2) (.int .i64 t309)) (fun _ hk => ⟨hk.1.1, ⟨hk.1.2.1, ⟨hk.1.2.2.1, hk.1.2.2.2⟩⟩⟩)⟩
  have n4_ : Aside0 (((((w41.setCell ⟨gb311, 0, none⟩ (.slice Ao42 t302.length co42)).setCell ⟨gb311, 1, none⟩ (.slice Ao44 t305.length co44)).setCell ⟨gb311, 2, none⟩ (.int .i64 t308)).setCell ⟨gb311, 3, none⟩ (.int .i64 t309)).heap[gi0]? = some (.cells #[.slice A0_0 l0_0.length c0_0, .int .i64 a0_1, u9000_, u9001_, .int .i64 a0_4, .int .i64 a0_5, .bool false] 113 (0, 0))) := ⟨zH6⟩
  have n5_ : Aside0 (((((w41.setCell ⟨gb311, 0, none⟩ (.slice Ao42 t302.length co42)).setCell ⟨gb311, 1, none⟩ (.slice Ao44 t305.length co44)).setCell ⟨gb311, 2, none⟩ (.int .i64 t308)).setCell ⟨gb311, 3, none⟩ (.int .i64 t309)).heap[gb311]? = some (.cells #[.slice Ao42 t302.length co42, .slice Ao44 t305.length co44, .int .i64 t308, .int .i64 t309] 28 (0, 0))) := ⟨by (with_reducible repeat (first | refine zc ?_ _ | refine ze ?_ | refine zb ?_ _)); refine zu (cs := #[.slice Ao42 t302.length co42, .slice Ao44 t305.length co44, .int .i64 t308, .int .i64 0]) ?_ 3 _ rfl; (with_reducible repeat (first | refine zc ?_ _ | refine ze ?_ | refine zb ?_ _)); refine zu (cs := #[.slice Ao42 t302.length co42, .slice Ao44 t305.length co44, .int .i64 0, .int .i64 0]) ?_ 2 _ rfl; (with_reducible repeat (first | refine zc ?_ _ | refine ze ?_ | refine zb ?_ _)); refine zu (cs := #[.slice Ao42 t302.length co42, .slice none 0 0, .int .i64 0, .int .i64 0]) ?_ 1 _ rfl; (with_reducible repeat (first | refine zc ?_ _ | refine ze ?_ | refine zb ?_ _)); refine zu (cs := #[.slice none 0 0, .slice none 0 0, .int .i64 0, .int .i64 0]) ?_ 0 _ rfl; (with_reducible repeat (first | refine zc ?_ _ | refine ze ?_ | refine zb ?_ _)); exact BK311.out⟩
  have n6_ : Aside0 (Kept w ((((w41.setCell ⟨gb311, 0, none⟩ (.slice Ao42 t302.length co42)).setCell ⟨gb311, 1, none⟩ (.slice Ao44 t305.length co44)).setCell ⟨gb311, 2, none⟩ (.int .i64 t308)).setCell ⟨gb311, 3, none⟩ (.int .i64 t309)) (fun k_ => (P0_2_ k_ ∨ P0_3_ k_) ∨ k_ = gi0)) := ⟨zH33⟩
  have n7_ : Aside0 (Below w0.heap.size w0 ((((w41.setCell ⟨gb311, 0, none⟩ (.slice Ao42 t302.length co42)).setCell ⟨gb311, 1, none⟩ (.slice Ao44 t305.length co44)).setCell ⟨gb311, 2, none⟩ (.int .i64 t308)).setCell ⟨gb311, 3, none⟩ (.int .i64 t309))) := ⟨zH54⟩
  (try clear HO0_2)
  (try clear HO0_3)
  (try clear HO304)
  (try clear HO307)
  (try clear BK0)
  (try clear BK311)
  (try clear HK)
  (try clear HB)
  generalize ((((w41.setCell ⟨gb311, 0, none⟩ (.slice Ao42 t302.length co42)).setCell ⟨gb311, 1, none⟩ (.slice Ao44 t305.length co44)).setCell ⟨gb311, 2, none⟩ (.int .i64 t308)).setCell ⟨gb311, 3, none⟩ (.int .i64 t309)) = w50 at n0_ n1_ n2_ n3_ n4_ n5_ n6_ n7_ ⊢
  have HO0_2 := n0_
  have HO0_3 := n1_
  have HO304 := n2_
  have HO307 := n3_
  have BK0 := n4_
  have BK311 := n5_
  have HK := n6_
  have HB := n7_
  clear n0_ n1_ n2_ n3_ n4_ n5_ n6_ n7_
  obtain ⟨n0_, n1_, n2_, n3_, n4_, n5_, n6_, n7_⟩ := zD8 (zh HO0_2.out) (zh HO0_3.out) (zh HO304.out) (zh HO307.out) (ze BK0.out) (ze BK311.out) (Kept.drew HK.out) (zk HB.out)
  clear HO0_2 HO0_3 HO304 HO307 BK0 BK311 HK HB
  have HO0_2 := n0_
  have HO0_3 := n1_
  have HO304 := n2_
  have HO307 := n3_
  have BK0 := n4_
  have BK311 := n5_
  have HK := n6_
  have HB := n7_
  clear n0_ n1_ n2_ n3_ n4_ n5_ n6_ n7_
  refine start_ (n := 15) (S := fun w' => w'.cell? ⟨gi0, 0, none⟩ = some (.slice A0_0 l0_0.length c0_0) ∧ w'.cell? ⟨gi0, 1, none⟩ = some (.int .i64 a0_1) ∧ w'.cell? ⟨gi0, 2, none⟩ = some (u9000_) ∧ w'.cell? ⟨gi0, 3, none⟩ = some (u9001_) ∧ w'.cell? ⟨gi0, 4, none⟩ = some (.int .i64 a0_4) ∧ w'.cell? ⟨gi0, 5, none⟩ = some (.int .i64 a0_5) ∧ w'.cell? ⟨gi0, 6, none⟩ = some (.bool false)) (ds := []) b6A21 zG125 rfl rfl ⟨(zl BK0.out 0).trans rfl, (zl BK0.out 1).trans rfl, (zl BK0.out 2).trans rfl, (zl BK0.out 3).trans rfl, (zl BK0.out 4).trans rfl, (zl BK0.out 5).trans rfl, (zl BK0.out 6).trans rfl⟩ (fun hHeld => ?_); refine with_tabW spec_l20Search_try.tab3 spec_l20Search_try.bits3 (fun HT_ HW_ => ?_)
  generalize w50.drew = w51 at HO0_2 HO0_3 HO304 HO307 BK0 BK311 HK HB hHeld ⊢
  refine zP 0 32 b6A22 HT_ ?_
  refine zP 1 33 b6A23 HT_ ?_
  refine zP 2 34 b6A24 HT_ ?_
  refine zQ 3 35 b6A25 HT_ HW_ hHeld ?_
  refine zP 4 36 b6A26 HT_ ?_
  refine zP 5 37 b6A27 HT_ ?_
  refine zU 6 38 b6A28 HT_ ?_
  refine zU 7 39 #[true, true, true, true, true, true, true, true, false, false, false, false, false, false, false] HT_ ?_
  refine zU 8 40 #[true, true, true, true, true, true, true, true, true, false, false, false, false, false, false] HT_ ?_
  refine zU 9 41 #[true, true, true, true, true, true, true, true, true, true, false, false, false, false, false] HT_ ?_
  refine zU 10 42 #[true, true, true, true, true, true, true, true, true, true, true, false, false, false, false] HT_ ?_
  refine zU 11 43 b6A29 HT_ ?_
  refine zU 12 44 b6A30 HT_ ?_
  refine zU 13 45 b6A31 HT_ ?_
  refine zP 14 46 b6A32 HT_ ?_
  refine done_ (done_of HT_.out zG125) ?_
  obtain ⟨hcz52_0, hcz52_1, hcz52_2, hcz52_3, hfz52_0, hfz52_1, hfz52_2, hfz52_3⟩ := zB4 BK311.out
  obtain ⟨hcz53_0, hcz53_1, hcz53_2, hcz53_3, hcz53_4, hcz53_5, hcz53_6, hfz53_0, hfz53_1, hfz53_2, hfz53_3, hfz53_4, hfz53_5, hfz53_6⟩ := zB7 BK0.out
  try go_wp2
  first | go_end0 | ((try simp only [Exit.inBlock, Exit.then]); refine bodyPost_ret (results_none rfl _ _ _) rfl ?_)
  exact ⟨_, _, zH92, by (with_reducible repeat (first | apply zf | apply zg | apply zh)); exact zo (zd (p := ⟨gi0, 6, none⟩) (zd (p := ⟨gi0, 5, none⟩) (zd (p := ⟨gi0, 4, none⟩) (zd (p := ⟨gi0, 3, none⟩) (zd (p := ⟨gi0, 2, none⟩) (zq HO304.out BK0.out zG126) (fun _ hk => hk.2) (.slice Ao42 t302.length co42)) (fun _ hk => hk.2) (.slice Ao44 t305.length co44)) (fun _ hk => hk.2) (.int .i64 t308)) (fun _ hk => hk.2) (.int .i64 t309)) (fun _ hk => hk.2) (.bool true)) (fun _ hk => ⟨hk.1.1, hk.1.2.2.2⟩), by (with_reducible repeat (first | apply zf | apply zg | apply zh)); exact zo (zd (p := ⟨gi0, 6, none⟩) (zd (p := ⟨gi0, 5, none⟩) (zd (p := ⟨gi0, 4, none⟩) (zd (p := ⟨gi0, 3, none⟩) (zd (p := ⟨gi0, 2, none⟩) (zq HO307.out BK0.out zG126) (fun _ hk => hk.2) (.slice Ao42 t302.length co42)) (fun _ hk => hk.2) (.slice Ao44 t305.length co44)) (fun _ hk => hk.2) (.int .i64 t308)) (fun _ hk => hk.2) (.int .i64 t309)) (fun _ hk => hk.2) (.bool true)) (fun _ hk => ⟨hk.1.1, hk.1.2.2.2⟩), (by (with_reducible repeat (first | refine zc ?_ _ | refine ze ?_ | refine zb ?_ _)); refine zu (cs := #[.slice A0_0 l0_0.length c0_0, .int .i64 a0_1, .slice Ao42 t302.length co42, .slice Ao44 t305.length co44, .int .i64 t308, .int .i64 t309, .bool false]) ?_ 6 _ rfl; (with_reducible repeat (first | refine zc ?_ _ | refine ze ?_ | refine zb ?_ _)); refine zu (cs := #[.slice A0_0 l0_0.length c0_0, .int .i64 a0_1, .slice Ao42 t302.length co42, .slice Ao44 t305.length co44, .int .i64 t308, .int .i64 a0_5, .bool false]) ?_ 5 _ rfl; (with_reducible repeat (first | refine zc ?_ _ | refine ze ?_ | refine zb ?_ _)); refine zu (cs := #[.slice A0_0 l0_0.length c0_0, .int .i64 a0_1, .slice Ao42 t302.length co42, .slice Ao44 t305.length co44, .int .i64 a0_4, .int .i64 a0_5, .bool false]) ?_ 4 _ rfl; (with_reducible repeat (first | refine zc ?_ _ | refine ze ?_ | refine zb ?_ _)); refine zu (cs := #[.slice A0_0 l0_0.length c0_0, .int .i64 a0_1, .slice Ao42 t302.length co42, u9001_, .int .i64 a0_4, .int .i64 a0_5, .bool false]) ?_ 3 _ rfl; (with_reducible repeat (first | refine zc ?_ _ | refine ze ?_ | refine zb ?_ _)); refine zu (cs := #[.slice A0_0 l0_0.length c0_0, .int .i64 a0_1, u9000_, u9001_, .int .i64 a0_4, .int .i64 a0_5, .bool false]) ?_ 2 _ rfl; (with_reducible repeat (first | refine zc ?_ _ | refine ze ?_ | refine zb ?_ _)); exact BK0.out), zH54, zH33⟩
 subst c6
 have H1 : (if t309 < a0_5 then (some (t302, t305, t308, t309, true)) else (some (l0_2, l0_3, a0_4, a0_5, true))) = some (r1, r2, r3, r4, r5) := by rw [if_pos rfl] at H; exact H
 clear H
 have H := H1
 clear H1
 by_cases c7 : t309 < a0_5
 rotate_left
 ·rw [if_neg c7] at H
  have c7b0 := decide_eq_false c7
  clear c7
  simp only [Option.some.injEq, Prod.mk.injEq] at H
  obtain ⟨rfl, rfl, rfl, rfl, rfl⟩ := H
  go_enter Try.func69, Try.ntmps69
  try go_wp2
  obtain ⟨n0_, n1_, n2_, n3_, n4_⟩ := zD5 (zh HO0_2.out) (zh HO0_3.out) (ze BK0.out) (Kept.drew HK.out) (zk HB.out)
  clear HO0_2 HO0_3 BK0 HK HB
  have HO0_2 := n0_
  have HO0_3 := n1_
  have BK0 := n2_
  have HK := n3_
  have HB := n4_
  clear n0_ n1_ n2_ n3_ n4_
  refine start_ (n := 16) (S := fun w' => w'.cell? ⟨gi0, 0, none⟩ = some (.slice A0_0 l0_0.length c0_0) ∧ w'.cell? ⟨gi0, 1, none⟩ = some (.int .i64 a0_1) ∧ w'.cell? ⟨gi0, 2, none⟩ = some (u9000_) ∧ w'.cell? ⟨gi0, 3, none⟩ = some (u9001_) ∧ w'.cell? ⟨gi0, 4, none⟩ = some (.int .i64 a0_4) ∧ w'.cell? ⟨gi0, 5, none⟩ = some (.int .i64 a0_5) ∧ w'.cell? ⟨gi0, 6, none⟩ = some (.bool true)) (ds := []) b6A1 zG125 rfl rfl ⟨(zl BK0.out 0).trans rfl, (zl BK0.out 1).trans rfl, (zl BK0.out 2).trans rfl, (zl BK0.out 3).trans rfl, (zl BK0.out 4).trans rfl, (zl BK0.out 5).trans rfl, (zl BK0.out 6).trans rfl⟩ (fun hHeld => ?_); refine with_tabW spec_l20Search_try.tab0 spec_l20Search_try.bits0 (fun HT_ HW_ => ?_)
  generalize w.drew = w24 at HO0_2 HO0_3 BK0 HK HB hHeld ⊢
  refine zP 0 10 b6A2 HT_ ?_
  refine zP 1 11 b6A3 HT_ ?_
  refine zP 2 12 b6A4 HT_ ?_
  refine zP 4 14 b6A5 HT_ ?_
  refine zP 5 15 b6A6 HT_ ?_
  refine zP 6 16 b6A7 HT_ ?_
  refine zP 8 18 b6A8 HT_ ?_
  refine zQ 3 13 b6A9 HT_ HW_ hHeld ?_
  refine zQ 7 17 b6A10 HT_ HW_ hHeld ?_
  refine join_ (σ := Value × Value × Nat) 2 b6A0 (fun s_ => [(19, .tuple #[.agg #[s_.1, s_.2.1, .int .i64 t308, .int .i64 t309], .bool true]), (4, .pointer (some ⟨s_.2.2, 0, none⟩)), (9, .tuple #[.agg #[s_.1, s_.2.1, .int .i64 t308, .int .i64 t309], .bool true]), (20, .agg #[s_.1, s_.2.1, .int .i64 t308, .int .i64 t309]), (21, .bool true)]) (fun s_ w' => (w'.cell? ⟨gi0, 0, none⟩ = some (.slice A0_0 l0_0.length c0_0) ∧ w'.cell? ⟨gi0, 1, none⟩ = some (.int .i64 a0_1) ∧ w'.cell? ⟨gi0, 2, none⟩ = some (u9000_) ∧ w'.cell? ⟨gi0, 3, none⟩ = some (u9001_) ∧ w'.cell? ⟨gi0, 4, none⟩ = some (.int .i64 a0_4) ∧ w'.cell? ⟨gi0, 5, none⟩ = some (.int .i64 a0_5) ∧ w'.cell? ⟨gi0, 6, none⟩ = some (.bool true)) ∧ (Kd.R (Kd.int .i64) 3 w' w0.heap.size (fun k_ => ((P0_2_ k_ ∨ P0_3_ k_) ∨ w.heap.size ≤ k_) ∧ some k_ ≠ (u9001_ : Value).ownBlock ∧ some k_ ≠ (s_.1 : Value).ownBlock ∧ some k_ ≠ (s_.2.1 : Value).ownBlock) u9000_ l0_2) ∧ (Kd.R (Kd.int .i64) 3 w' w0.heap.size (fun k_ => ((P0_2_ k_ ∨ P0_3_ k_) ∨ w.heap.size ≤ k_) ∧ some k_ ≠ (u9000_ : Value).ownBlock ∧ some k_ ≠ (s_.1 : Value).ownBlock ∧ some k_ ≠ (s_.2.1 : Value).ownBlock) u9001_ l0_3) ∧ (Kd.R (Kd.int .i64) 3 w' w0.heap.size (fun k_ => ((P0_2_ k_ ∨ P0_3_ k_) ∨ w.heap.size ≤ k_) ∧ some k_ ≠ (u9000_ : Value).ownBlock ∧ some k_ ≠ (u9001_ : Value).ownBlock ∧ some k_ ≠ (s_.2.1 : Value).ownBlock) s_.1 t302) ∧ (Kd.R (Kd.int .i64) 3 w' w0.heap.size (fun k_ => ((P0_2_ k_ ∨ P0_3_ k_) ∨ w.heap.size ≤ k_) ∧ some k_ ≠ (u9000_ : Value).ownBlock ∧ some k_ ≠ (u9001_ : Value).ownBlock ∧ some k_ ≠ (s_.1 : Value).ownBlock) s_.2.1 t305) ∧ (w'.heap[gi0]? = some (.cells #[.slice A0_0 l0_0.length c0_0, .int .i64 a0_1, u9000_, u9001_, .int .i64 a0_4, .int .i64 a0_5, .bool true] 113 (0, 0))) ∧ (w'.heap[s_.2.2]? = some (.cells #[.slice none 0 0, .slice none 0 0, .int .i64 0, .int .i64 0] 28 (0, 0))) ∧ (w.heap.size ≤ s_.2.2) ∧ (w0.heap.size ≤ s_.2.2) ∧ (gi0 ≠ s_.2.2) ∧ (s_.2.2 ≠ gi0) ∧ (Kept w w' (fun k_ => (P0_2_ k_ ∨ P0_3_ k_) ∨ k_ = gi0)) ∧ (Below w0.heap.size w0 w')) ?_ ?_
  rotate_left
  ·intro hCont
   refine two_ (i := 9) (j := 13) (Ni := some 19) (Nj := some 4) b6A11 b6A12 rfl rfl rfl rfl (two_of HT_.out zG125) zG126 zG126 (fun K hK => ?_) (fun K hK => ?_)
   ·skip
    refine goes_ Try.func123 zG125 rfl #[.slice A0_0 l0_0.length c0_0, .int .i64 a0_1, .slice A1 l1.length c1] (by rfl) rfl rfl zG87 ?_
    with_reducible refine (spec_l20Route.calls k _ _ l0_0 a0_1 _ _ l1 t302 t305 t308 t309 true _ ?side1 ?side2 ?side3 ?side4 A3.out).mono ?_
    (case side1 => exact zaj HR0_0.out zG84)
    (case side2 => exact HC0_0.out)
    (case side3 => exact zaj HR1.out zG84)
    (case side4 => exact HC1.out)
    rintro e w25 ⟨v303, v306, rfl, ho0, ho1, hb⟩
    refine ⟨_, rfl, ?_⟩
    obtain ⟨n0_, n1_, n2_, n3_, n4_, n5_, n6_⟩ := zD7 (zo (zaa (zaa (zaf zG117 hb) (zy ho0)) (zy ho1)) (fun _ h_ => h_.1)) (zo (zaa (zaa (zaf zG118 hb) (zy ho0)) (zy ho1)) (fun _ h_ => h_.1)) (zae (zz (zz (zap (M := fun k_ => ((P0_2_ k_ ∨ P0_3_ k_) ∨ w.heap.size ≤ k_)) ho0 zG78 (fun k_ h_ => .inr h_)) (zab zG117)) (zab zG118)) (zt zG94)) (zae (zz (zz (zap (M := fun k_ => ((P0_2_ k_ ∨ P0_3_ k_) ∨ w.heap.size ≤ k_)) ho1 zG78 (fun k_ h_ => .inr h_)) (zab zG117)) (zab zG118)) (zt zG94)) (zs (g := gi0) (o := .cells #[.slice A0_0 l0_0.length c0_0, .int .i64 a0_1, u9000_, u9001_, .int .i64 a0_4, .int .i64 a0_5, .bool true] 113 (0, 0)) zG106 hb) (Kept.below (S := (fun k_ => (P0_2_ k_ ∨ P0_3_ k_) ∨ k_ = gi0)) zG84 hb) (zv zG94 hb)
    clear HO0_2 HO0_3 BK0 HK HB
    have HO0_2 := n0_
    have HO0_3 := n1_
    have HO304 := n2_
    have HO307 := n3_
    have BK0 := n4_
    have HK := n5_
    have HB := n6_
    clear n0_ n1_ n2_ n3_ n4_ n5_ n6_
    (try clear hb)
    (try clear hb2)
    (try clear hk)
    (try clear hi)
    (try clear ho0)
    (try clear ho1)
    refine hK.out _ _ ⟨(zl BK0.out 0).trans rfl, (zl BK0.out 1).trans rfl, (zl BK0.out 2).trans rfl, (zl BK0.out 3).trans rfl, (zl BK0.out 4).trans rfl, (zl BK0.out 5).trans rfl, (zl BK0.out 6).trans rfl⟩ (fun hHeld => ?_)
    clear hK K
    refine norm_ (a' := ?_) ?_ ?_
    rotate_left
    ·show Act.put _ (some 19) _ = _
     simp only [Act.put, List.setIfInBounds_toArray, List.set_cons_zero, List.set_cons_succ, i64_w, i32_w]
     rfl
    refine zP 10 9 b6A13 HT_ ?_
    refine zP 11 20 b6A14 HT_ ?_
    refine zP 12 21 b6A15 HT_ ?_
    refine one_ (i := 13) (N := some 4) b6A0 rfl rfl (one_of HT_.out zG125) zG126 (fun K hK => ?_)
    refine box_step ?hg (N := 4) ?hd (cs := #[.slice none 0 0, .slice none 0 0, .int .i64 0, .int .i64 0]) (t := 28) ?hr ?_; (case hd => rfl); (case hg => rfl); (case hr => exact zH103)
    intro gb311 hg w26 hbox hb
    obtain ⟨n0_, n1_, n2_, n3_, n4_, n5_, n6_, n7_, n8_, n9_, n10_, n11_⟩ := zD12 (zp zG117 hb) (zp zG118 hb) (zp zK203 hb) (zp zK204 hb) (zs (g := gi0) (o := .cells #[.slice A0_0 l0_0.length c0_0, .int .i64 a0_1, u9000_, u9001_, .int .i64 a0_4, .int .i64 a0_5, .bool true] 113 (0, 0)) zG106 hb) (Kept.below (S := (fun k_ => (P0_2_ k_ ∨ P0_3_ k_) ∨ k_ = gi0)) zG84 hb) (zv zG94 hb) (hbox) ((by rw [hg]; exact zG78 : w.heap.size ≤ gb311)) ((by rw [hg]; exact (zt zG94) : w0.heap.size ≤ gb311)) ((by rw [hg]; exact Nat.ne_of_lt (zac (g := gi0) (o := .cells #[.slice A0_0 l0_0.length c0_0, .int .i64 a0_1, u9000_, u9001_, .int .i64 a0_4, .int .i64 a0_5, .bool true] 113 (0, 0)) zG106) : gi0 ≠ gb311)) ((by rw [hg]; exact Nat.ne_of_gt (zac (g := gi0) (o := .cells #[.slice A0_0 l0_0.length c0_0, .int .i64 a0_1, u9000_, u9001_, .int .i64 a0_4, .int .i64 a0_5, .bool true] 113 (0, 0)) zG106) : gb311 ≠ gi0))
    clear HO0_2 HO0_3 HO304 HO307 BK0 HK HB
    have HO0_2 := n0_
    have HO0_3 := n1_
    have HO304 := n2_
    have HO307 := n3_
    have BK0 := n4_
    have HK := n5_
    have HB := n6_
    have BK311 := n7_
    have GW311 := n8_
    have GE311 := n9_
    have NB0_311 := n10_
    have NB311_0 := n11_
    clear n0_ n1_ n2_ n3_ n4_ n5_ n6_ n7_ n8_ n9_ n10_ n11_
    clear hb hbox hg
    refine hK.out _ _ ⟨(zl BK0.out 0).trans rfl, (zl BK0.out 1).trans rfl, (zl BK0.out 2).trans rfl, (zl BK0.out 3).trans rfl, (zl BK0.out 4).trans rfl, (zl BK0.out 5).trans rfl, (zl BK0.out 6).trans rfl⟩ (fun hHeld => ?_)
    clear hK K
    refine norm_ (a' := ?_) ?_ ?_
    rotate_left
    ·show Act.put _ (some 4) _ = _
     simp only [Act.put, List.setIfInBounds_toArray, List.set_cons_zero, List.set_cons_succ, i64_w, i32_w]
     rfl
    exact norm_ zK190 (hCont (v303, v306, gb311) _ ⟨hHeld, zG88, zG89, zG90, zG91, zG106, zG96, GW311.out, GE311.out, NB0_311.out, NB311_0.out, zG80, zG86⟩)
   ·skip
    refine box_step ?hg (N := 4) ?hd (cs := #[.slice none 0 0, .slice none 0 0, .int .i64 0, .int .i64 0]) (t := 28) ?hr ?_; (case hd => rfl); (case hg => rfl); (case hr => exact zH103)
    intro gb311 hg w25 hbox hb
    obtain ⟨n0_, n1_, n2_, n3_, n4_, n5_, n6_, n7_, n8_, n9_⟩ := zD10 (zp zG117 hb) (zp zG118 hb) (zs (g := gi0) (o := .cells #[.slice A0_0 l0_0.length c0_0, .int .i64 a0_1, u9000_, u9001_, .int .i64 a0_4, .int .i64 a0_5, .bool true] 113 (0, 0)) zG106 hb) (Kept.below (S := (fun k_ => (P0_2_ k_ ∨ P0_3_ k_) ∨ k_ = gi0)) zG84 hb) (zv zG94 hb) (hbox) ((by rw [hg]; exact zG78 : w.heap.size ≤ gb311)) ((by rw [hg]; exact (zt zG94) : w0.heap.size ≤ gb311)) ((by rw [hg]; exact Nat.ne_of_lt (zac (g := gi0) (o := .cells #[.slice A0_0 l0_0.length c0_0, .int .i64 a0_1, u9000_, u9001_, .int .i64 a0_4, .int .i64 a0_5, .bool true] 113 (0, 0)) zG106) : gi0 ≠ gb311)) ((by rw [hg]; exact Nat.ne_of_gt (zac (g := gi0) (o := .cells #[.slice A0_0 l0_0.length c0_0, .int .i64 a0_1, u9000_, u9001_, .int .i64 a0_4, .int .i64 a0_5, .bool true] 113 (0, 0)) zG106) : gb311 ≠ gi0))
    clear HO0_2 HO0_3 BK0 HK HB
    have HO0_2 := n0_
    have HO0_3 := n1_
    have BK0 := n2_
    have HK := n3_
    have HB := n4_
    have BK311 := n5_
    have GW311 := n6_
    have GE311 := n7_
    have NB0_311 := n8_
    have NB311_0 := n9_
    clear n0_ n1_ n2_ n3_ n4_ n5_ n6_ n7_ n8_ n9_
    clear hb hbox hg
    refine hK.out _ _ ⟨(zl BK0.out 0).trans rfl, (zl BK0.out 1).trans rfl, (zl BK0.out 2).trans rfl, (zl BK0.out 3).trans rfl, (zl BK0.out 4).trans rfl, (zl BK0.out 5).trans rfl, (zl BK0.out 6).trans rfl⟩ (fun hHeld => ?_)
    clear hK K
    refine norm_ (a' := ?_) ?_ ?_
    rotate_left
    ·show Act.put _ (some 4) _ = _
     simp only [Act.put, List.setIfInBounds_toArray, List.set_cons_zero, List.set_cons_succ, i64_w, i32_w]
     rfl
    refine one_ (i := 9) (N := some 19) b6A16 rfl rfl (one_of HT_.out zG125) zG126 (fun K hK => ?_)
    refine goes_ Try.func123 zG125 rfl #[.slice A0_0 l0_0.length c0_0, .int .i64 a0_1, .slice A1 l1.length c1] (by rfl) rfl rfl zG87 ?_
    with_reducible refine (spec_l20Route.calls k _ _ l0_0 a0_1 _ _ l1 t302 t305 t308 t309 true _ ?side1 ?side2 ?side3 ?side4 A3.out).mono ?_
    (case side1 => exact zaj HR0_0.out zG80)
    (case side2 => exact HC0_0.out)
    (case side3 => exact zaj HR1.out zG80)
    (case side4 => exact HC1.out)
    rintro e w26 ⟨v303, v306, rfl, ho0, ho1, hb⟩
    refine ⟨_, rfl, ?_⟩
    obtain ⟨n0_, n1_, n2_, n3_, n4_, n5_, n6_, n7_⟩ := zD8 (zo (zaa (zaa (zaf zG117 hb) (zy ho0)) (zy ho1)) (fun _ h_ => h_.1)) (zo (zaa (zaa (zaf zG118 hb) (zy ho0)) (zy ho1)) (fun _ h_ => h_.1)) (zae (zz (zz (zap (M := fun k_ => ((P0_2_ k_ ∨ P0_3_ k_) ∨ w.heap.size ≤ k_)) ho0 zG77 (fun k_ h_ => .inr h_)) (zab zG117)) (zab zG118)) (zt zG86)) (zae (zz (zz (zap (M := fun k_ => ((P0_2_ k_ ∨ P0_3_ k_) ∨ w.heap.size ≤ k_)) ho1 zG77 (fun k_ h_ => .inr h_)) (zab zG117)) (zab zG118)) (zt zG86)) (zs (g := gi0) (o := .cells #[.slice A0_0 l0_0.length c0_0, .int .i64 a0_1, u9000_, u9001_, .int .i64 a0_4, .int .i64 a0_5, .bool true] 113 (0, 0)) zG106 hb) (zs (g := gb311) (o := .cells #[.slice none 0 0, .slice none 0 0, .int .i64 0, .int .i64 0] 28 (0, 0)) zG96 hb) (Kept.below (S := (fun k_ => (P0_2_ k_ ∨ P0_3_ k_) ∨ k_ = gi0)) zG80 hb) (zv zG86 hb)
    clear HO0_2 HO0_3 BK0 BK311 HK HB
    have HO0_2 := n0_
    have HO0_3 := n1_
    have HO304 := n2_
    have HO307 := n3_
    have BK0 := n4_
    have BK311 := n5_
    have HK := n6_
    have HB := n7_
    clear n0_ n1_ n2_ n3_ n4_ n5_ n6_ n7_
    (try clear hb)
    (try clear hb2)
    (try clear hk)
    (try clear hi)
    (try clear ho0)
    (try clear ho1)
    refine hK.out _ _ ⟨(zl BK0.out 0).trans rfl, (zl BK0.out 1).trans rfl, (zl BK0.out 2).trans rfl, (zl BK0.out 3).trans rfl, (zl BK0.out 4).trans rfl, (zl BK0.out 5).trans rfl, (zl BK0.out 6).trans rfl⟩ (fun hHeld => ?_)
    clear hK K
    refine norm_ (a' := ?_) ?_ ?_
    rotate_left
    ·show Act.put _ (some 19) _ = _
     simp only [Act.put, List.setIfInBounds_toArray, List.set_cons_zero, List.set_cons_succ, i64_w, i32_w]
     rfl
    refine zP 10 9 b6A17 HT_ ?_
    refine zP 11 20 b6A18 HT_ ?_
    refine zP 12 21 b6A0 HT_ ?_
    exact norm_ zK190 (hCont (v303, v306, gb311) _ ⟨hHeld, zG88, zG89, zG90, zG91, zG106, zG96, GW311.out, GE311.out, NB0_311.out, NB311_0.out, zG80, zG86⟩)
  rintro ⟨v303, v306, gb311⟩ w27 ⟨hS_, h0_, h1_, h2_, h3_, h4_, h5_, h6_, h7_, h8_, h9_, h10_, h11_⟩
  have n0_ : Aside0 (Kd.R (Kd.int .i64) 3 w27 w0.heap.size (fun k_ => ((P0_2_ k_ ∨ P0_3_ k_) ∨ w.heap.size ≤ k_) ∧ some k_ ≠ (u9001_ : Value).ownBlock ∧ some k_ ≠ (v303 : Value).ownBlock ∧ some k_ ≠ (v306 : Value).ownBlock) u9000_ l0_2) := ⟨h0_⟩
  have n1_ : Aside0 (Kd.R (Kd.int .i64) 3 w27 w0.heap.size (fun k_ => ((P0_2_ k_ ∨ P0_3_ k_) ∨ w.heap.size ≤ k_) ∧ some k_ ≠ (u9000_ : Value).ownBlock ∧ some k_ ≠ (v303 : Value).ownBlock ∧ some k_ ≠ (v306 : Value).ownBlock) u9001_ l0_3) := ⟨h1_⟩
  have n2_ : Aside0 (Kd.R (Kd.int .i64) 3 w27 w0.heap.size (fun k_ => ((P0_2_ k_ ∨ P0_3_ k_) ∨ w.heap.size ≤ k_) ∧ some k_ ≠ (u9000_ : Value).ownBlock ∧ some k_ ≠ (u9001_ : Value).ownBlock ∧ some k_ ≠ (v306 : Value).ownBlock) v303 t302) := ⟨h2_⟩
  have n3_ : Aside0 (Kd.R (Kd.int .i64) 3 w27 w0.heap.size (fun k_ => ((P0_2_ k_ ∨ P0_3_ k_) ∨ w.heap.size ≤ k_) ∧ some k_ ≠ (u9000_ : Value).ownBlock ∧ some k_ ≠ (u9001_ : Value).ownBlock ∧ some k_ ≠ (v303 : Value).ownBlock) v306 t305) := ⟨h3_⟩
  have n4_ : Aside0 (w27.heap[gi0]? = some (.cells #[.slice A0_0 l0_0.length c0_0, .int .i64 a0_1, u9000_, u9001_, .int .i64 a0_4, .int .i64 a0_5, .bool true] 113 (0, 0))) := ⟨h4_⟩
  have n5_ : Aside0 (w27.heap[gb311]? = some (.cells #[.slice none 0 0, .slice none 0 0, .int .i64 0, .int .i64 0] 28 (0, 0))) := ⟨h5_⟩
  have n6_ : Aside0 (w.heap.size ≤ gb311) := ⟨h6_⟩
  have n7_ : Aside0 (w0.heap.size ≤ gb311) := ⟨h7_⟩
  have n8_ : Aside0 (gi0 ≠ gb311) := ⟨h8_⟩
  have n9_ : Aside0 (gb311 ≠ gi0) := ⟨h9_⟩
  have n10_ : Aside0 (Kept w w27 (fun k_ => (P0_2_ k_ ∨ P0_3_ k_) ∨ k_ = gi0)) := ⟨h10_⟩
  have n11_ : Aside0 (Below w0.heap.size w0 w27) := ⟨h11_⟩
  clear HO0_2
  clear HO0_3
  clear BK0
  clear HK
  clear HB
  clear h0_ h1_ h2_ h3_ h4_ h5_ h6_ h7_ h8_ h9_ h10_ h11_
  have HO0_2 := n0_
  have HO0_3 := n1_
  have HO304 := n2_
  have HO307 := n3_
  have BK0 := n4_
  have BK311 := n5_
  have GW311 := n6_
  have GE311 := n7_
  have NB0_311 := n8_
  have NB311_0 := n9_
  have HK := n10_
  have HB := n11_
  clear n0_ n1_ n2_ n3_ n4_ n5_ n6_ n7_ n8_ n9_ n10_ n11_
  have hHeld : w27.cell? ⟨gi0, 0, none⟩ = some (.slice A0_0 l0_0.length c0_0) ∧ w27.cell? ⟨gi0, 1, none⟩ = some (.int .i64 a0_1) ∧ w27.cell? ⟨gi0, 2, none⟩ = some (u9000_) ∧ w27.cell? ⟨gi0, 3, none⟩ = some (u9001_) ∧ w27.cell? ⟨gi0, 4, none⟩ = some (.int .i64 a0_4) ∧ w27.cell? ⟨gi0, 5, none⟩ = some (.int .i64 a0_5) ∧ w27.cell? ⟨gi0, 6, none⟩ = some (.bool true) := hS_
  obtain ⟨Ao28, co28, eo28⟩ := zad HO304.out
  (first | subst eo28 | (injection eo28 with f1_ f2_ f3_; have f4_ := f1_.symm; have f5_ := f3_.symm; clear f1_ f2_ f3_; subst f4_; subst f5_))
  obtain ⟨Ao30, co30, eo30⟩ := zad HO307.out
  (first | subst eo30 | (injection eo30 with f1_ f2_ f3_; have f4_ := f1_.symm; have f5_ := f3_.symm; clear f1_ f2_ f3_; subst f4_; subst f5_))
  refine norm_ (a' := ?_) ?_ ?_
  rotate_left
  ·simp only [putAll, Act.put, List.setIfInBounds_toArray, List.set_cons_zero, List.set_cons_succ]
   rfl
  refine one_ (i := 14) (N := none) b6A19 rfl rfl (one_of HT_.out zG125) zG126 (fun K hK => ?_)
  have hs29 : w27.cell? ⟨gb311, 0, none⟩ = some (.slice none 0 0) := (zl BK311.out 0).trans rfl
  have hfs29 := zn BK311.out 0
  have hns29_0 := NB0_311.out
  have hms29_0 := NB311_0.out
  have hs31 : w27.cell? ⟨gb311, 1, none⟩ = some (.slice none 0 0) := (zl BK311.out 1).trans rfl
  have hfs31 := zn BK311.out 1
  have hns31_0 := NB0_311.out
  have hms31_0 := NB311_0.out
  have hs32 : w27.cell? ⟨gb311, 2, none⟩ = some (.int .i64 0) := (zl BK311.out 2).trans rfl
  have hfs32 := zn BK311.out 2
  have hns32_0 := NB0_311.out
  have hms32_0 := NB311_0.out
  have hs33 : w27.cell? ⟨gb311, 3, none⟩ = some (.int .i64 0) := (zl BK311.out 3).trans rfl
  have hfs33 := zn BK311.out 3
  have hns33_0 := NB0_311.out
  have hms33_0 := NB311_0.out
  refine skip_ (w1 := ?_) (by rfl) rfl ?_ ?_
  rotate_left
  ·go_simp
   rfl
  refine hK.out _ _ ⟨((cell_far (p := ⟨gb311, _, none⟩) NB0_311.out _).trans (((cell_far (p := ⟨gb311, _, none⟩) NB0_311.out _).trans (((cell_far (p := ⟨gb311, _, none⟩) NB0_311.out _).trans (((cell_far (p := ⟨gb311, _, none⟩) NB0_311.out _).trans (hHeld.1)))))))), ((cell_far (p := ⟨gb311, _, none⟩) NB0_311.out _).trans (((cell_far (p := ⟨gb311, _, none⟩) NB0_311.out _).trans (((cell_far (p := ⟨gb311, _, none⟩) NB0_311.out _).trans (((cell_far (p := ⟨gb311, _, none⟩) NB0_311.out _).trans (hHeld.2.1)))))))), ((cell_far (p := ⟨gb311, _, none⟩) NB0_311.out _).trans (((cell_far (p := ⟨gb311, _, none⟩) NB0_311.out _).trans (((cell_far (p := ⟨gb311, _, none⟩) NB0_311.out _).trans (((cell_far (p := ⟨gb311, _, none⟩) NB0_311.out _).trans (hHeld.2.2.1)))))))), ((cell_far (p := ⟨gb311, _, none⟩) NB0_311.out _).trans (((cell_far (p := ⟨gb311, _, none⟩) NB0_311.out _).trans (((cell_far (p := ⟨gb311, _, none⟩) NB0_311.out _).trans (((cell_far (p := ⟨gb311, _, none⟩) NB0_311.out _).trans (hHeld.2.2.2.1)))))))), ((cell_far (p := ⟨gb311, _, none⟩) NB0_311.out _).trans (((cell_far (p := ⟨gb311, _, none⟩) NB0_311.out _).trans (((cell_far (p := ⟨gb311, _, none⟩) NB0_311.out _).trans (((cell_far (p := ⟨gb311, _, none⟩) NB0_311.out _).trans (hHeld.2.2.2.2.1)))))))), ((cell_far (p := ⟨gb311, _, none⟩) NB0_311.out _).trans (((cell_far (p := ⟨gb311, _, none⟩) NB0_311.out _).trans (((cell_far (p := ⟨gb311, _, none⟩) NB0_311.out _).trans (((cell_far (p := ⟨gb311, _, none⟩) NB0_311.out _).trans (hHeld.2.2.2.2.2.1)))))))), ((cell_far (p := ⟨gb311, _, none⟩) NB0_311.out _).trans (((cell_far (p := ⟨gb311, _, none⟩) NB0_311.out _).trans (((cell_far (p := ⟨gb311, _, none⟩) NB0_311.out _).trans (((cell_far (p := ⟨gb311, _, none⟩) NB0_311.out _).trans (hHeld.2.2.2.2.2.2))))))))⟩ (fun hHeld => ?_)
  clear hK K
  refine zP 15 5 b6A20 HT_ ?_
  refine done_ (done_of HT_.out zG125) ?_
  have hnb34 := NB0_311.out
  have hnc34 := NB311_0.out
  obtain ⟨hcz35_0, hcz35_1, hcz35_2, hcz35_3, hcz35_4, hcz35_5, hcz35_6, hfz35_0, hfz35_1, hfz35_2, hfz35_3, hfz35_4, hfz35_5, hfz35_6⟩ := zB7 BK0.out
  try go_wp2
  have n0_ : Aside0 (Kd.R (Kd.int .i64) 3 ((((w27.setCell ⟨gb311, 0, none⟩ (.slice Ao28 t302.length co28)).setCell ⟨gb311, 1, none⟩ (.slice Ao30 t305.length co30)).setCell ⟨gb311, 2, none⟩ (.int .i64 t308)).setCell ⟨gb311, 3, none⟩ (.int .i64 t309)) w0.heap.size (fun k_ => ((P0_2_ k_ ∨ P0_3_ k_) ∨ w.heap.size ≤ k_) ∧ some k_ ≠ (u9001_ : Value).ownBlock ∧ some k_ ≠ (.slice Ao28 t302.length co28 : Value).ownBlock ∧ some k_ ≠ (.slice Ao30 t305.length co30 : Value).ownBlock) u9000_ l0_2) := ⟨by (with_reducible repeat (first | apply zf | apply zg | apply zh)); exact zo (zd (p := ⟨gb311, 3, none⟩) (zd (p := ⟨gb311, 2, none⟩) (zd (p := ⟨gb311, 1, none⟩) (zd (p := ⟨gb311, 0, none⟩) (zq HO0_2.out BK311.out zG126) (fun _ hk => hk.2) (.slice Ao28 t302.length co28)) (fun _ hk => hk.2) (.slice Ao30 t305.length co30)) (fun _ hk => hk.2) (.int .i64 t308)) (fun _ hk => hk.2) (.int .i64 t309)) (fun _ hk => ⟨hk.1.1, ⟨hk.1.2.1, ⟨hk.1.2.2.1, hk.1.2.2.2⟩⟩⟩)⟩
  have n1_ : Aside0 (Kd.R (Kd.int .i64) 3 ((((w27.setCell ⟨gb311, 0, none⟩ (.slice Ao28 t302.length co28)).setCell ⟨gb311, 1, none⟩ (.slice Ao30 t305.length co30)).setCell ⟨gb311, 2, none⟩ (.int .i64 t308)).setCell ⟨gb311, 3, none⟩ (.int .i64 t309)) w0.heap.size (fun k_ => ((P0_2_ k_ ∨ P0_3_ k_) ∨ w.heap.size ≤ k_) ∧ some k_ ≠ (u9000_ : Value).ownBlock ∧ some k_ ≠ (.slice Ao28 t302.length co28 : Value).ownBlock ∧ some k_ ≠ (.slice Ao30 t305.length co30 : Value).ownBlock) u9001_ l0_3) := ⟨by (with_reducible repeat (first | apply zf | apply zg | apply zh)); exact zo (zd (p := ⟨gb311, 3, none⟩) (zd (p := ⟨gb311, 2, none⟩) (zd (p := ⟨gb311, 1, none⟩) (zd (p := ⟨gb311, 0, none⟩) (zq HO0_3.out BK311.out zG126) (fun _ hk => hk.2) (.slice Ao28 t302.length co28)) (fun _ hk => hk.2) (.slice Ao30 t305.length co30)) (fun _ hk => hk.2) (.int .i64 t308)) (fun _ hk => hk.2) (.int .i64 t309)) (fun _ hk => ⟨hk.1.1, ⟨hk.1.2.1, ⟨hk.1.2.2.1, hk.1.2.2.2⟩⟩⟩)⟩
  have n2_ : Aside0 (Kd.R (Kd.int .i64) 3 ((((w27.setCell ⟨gb311, 0, none⟩ (.slice Ao28 t302.length co28)).setCell ⟨gb311, 1, none⟩ (.slice Ao30 t305.length co30)).setCell ⟨gb311, 2, none⟩ (.int .i64 t308)).setCell ⟨gb311, 3, none⟩ (.int .i64 t309)) w0.heap.size (fun k_ => ((P0_2_ k_ ∨ P0_3_ k_) ∨ w.heap.size ≤ k_) ∧ some k_ ≠ (u9000_ : Value).ownBlock ∧ some k_ ≠ (u9001_ : Value).ownBlock ∧ some k_ ≠ (.slice Ao30 t305.length co30 : Value).ownBlock) (.slice Ao28 t302.length co28) t302) := ⟨by (with_reducible repeat (first | apply zf | apply zg | apply zh)); exact zo (zd (p := ⟨gb311, 3, none⟩) (zd (p := ⟨gb311, 2, none⟩) (zd (p := ⟨gb311, 1, none⟩) (zd (p := ⟨gb311, 0, none⟩) (zq HO304.out BK311.out zG126) (fun _ hk => hk.2) (.slice Ao28 t302.length co28)) (fun _ hk => hk.2) (.slice Ao30 t305.length co30)) (fun _ hk => hk.2) (.int .i64 t308)) (fun _ hk => hk.2) (.int .i64 t309)) (fun _ hk => ⟨hk.1.1, ⟨hk.1.2.1, ⟨hk.1.2.2.1, hk.1.2.2.2⟩⟩⟩)⟩
  have n3_ : Aside0 (Kd.R (Kd.int .i64) 3 ((((w27.setCell ⟨gb311, 0, none⟩ (.slice Ao28 t302.length co28)).setCell ⟨gb311, 1, none⟩ (.slice Ao30 t305.length co30)).setCell ⟨gb311, 2, none⟩ (.int .i64 t308)).setCell ⟨gb311, 3, none⟩ (.int .i64 t309)) w0.heap.size (fun k_ => ((P0_2_ k_ ∨ P0_3_ k_) ∨ w.heap.size ≤ k_) ∧ some k_ ≠ (u9000_ : Value).ownBlock ∧ some k_ ≠ (u9001_ : Value).ownBlock ∧ some k_ ≠ (.slice Ao28 t302.length co28 : Value).ownBlock) (.slice Ao30 t305.length co30) t305) := ⟨by (with_reducible repeat (first | apply zf | apply zg | apply zh)); exact zo (zd (p := ⟨gb311, 3, none⟩) (zd (p := ⟨gb311, 2, none⟩) (zd (p := ⟨gb311, 1, none⟩) (zd (p := ⟨gb311, 0, none⟩) (zq HO307.out BK311.out zG126) (fun _ hk => hk.2) (.slice Ao28 t302.length co28)) (fun _ hk => hk.2) (.slice Ao30 t305.length co30)) (fun _ hk => hk.2) (.int .i64 t308)) (fun _ hk => hk.2) (.int .i64 t309)) (fun _ hk => ⟨hk.1.1, ⟨hk.1.2.1, ⟨hk.1.2.2.1, hk.1.2.2.2⟩⟩⟩)⟩
  have n4_ : Aside0 (((((w27.setCell ⟨gb311, 0, none⟩ (.slice Ao28 t302.length co28)).setCell ⟨gb311, 1, none⟩ (.slice Ao30 t305.length co30)).setCell ⟨gb311, 2, none⟩ (.int .i64 t308)).setCell ⟨gb311, 3, none⟩ (.int .i64 t309)).heap[gi0]? = some (.cells #[.slice A0_0 l0_0.length c0_0, .int .i64 a0_1, u9000_, u9001_, .int .i64 a0_4, .int .i64 a0_5, .bool true] 113 (0, 0))) := ⟨zH6⟩
  have n5_ : Aside0 (((((w27.setCell ⟨gb311, 0, none⟩ (.slice Ao28 t302.length co28)).setCell ⟨gb311, 1, none⟩ (.slice Ao30 t305.length co30)).setCell ⟨gb311, 2, none⟩ (.int .i64 t308)).setCell ⟨gb311, 3, none⟩ (.int .i64 t309)).heap[gb311]? = some (.cells #[.slice Ao28 t302.length co28, .slice Ao30 t305.length co30, .int .i64 t308, .int .i64 t309] 28 (0, 0))) := ⟨by (with_reducible repeat (first | refine zc ?_ _ | refine ze ?_ | refine zb ?_ _)); refine zu (cs := #[.slice Ao28 t302.length co28, .slice Ao30 t305.length co30, .int .i64 t308, .int .i64 0]) ?_ 3 _ rfl; (with_reducible repeat (first | refine zc ?_ _ | refine ze ?_ | refine zb ?_ _)); refine zu (cs := #[.slice Ao28 t302.length co28, .slice Ao30 t305.length co30, .int .i64 0, .int .i64 0]) ?_ 2 _ rfl; (with_reducible repeat (first | refine zc ?_ _ | refine ze ?_ | refine zb ?_ _)); refine zu (cs := #[.slice Ao28 t302.length co28, .slice none 0 0, .int .i64 0, .int .i64 0]) ?_ 1 _ rfl; (with_reducible repeat (first | refine zc ?_ _ | refine ze ?_ | refine zb ?_ _)); refine zu (cs := #[.slice none 0 0, .slice none 0 0, .int .i64 0, .int .i64 0]) ?_ 0 _ rfl; (with_reducible repeat (first | refine zc ?_ _ | refine ze ?_ | refine zb ?_ _)); exact BK311.out⟩
  have n6_ : Aside0 (Kept w ((((w27.setCell ⟨gb311, 0, none⟩ (.slice Ao28 t302.length co28)).setCell ⟨gb311, 1, none⟩ (.slice Ao30 t305.length co30)).setCell ⟨gb311, 2, none⟩ (.int .i64 t308)).setCell ⟨gb311, 3, none⟩ (.int .i64 t309)) (fun k_ => (P0_2_ k_ ∨ P0_3_ k_) ∨ k_ = gi0)) := ⟨zH33⟩
  have n7_ : Aside0 (Below w0.heap.size w0 ((((w27.setCell ⟨gb311, 0, none⟩ (.slice Ao28 t302.length co28)).setCell ⟨gb311, 1, none⟩ (.slice Ao30 t305.length co30)).setCell ⟨gb311, 2, none⟩ (.int .i64 t308)).setCell ⟨gb311, 3, none⟩ (.int .i64 t309))) := ⟨zH54⟩
  (try clear HO0_2)
  (try clear HO0_3)
  (try clear HO304)
  (try clear HO307)
  (try clear BK0)
  (try clear BK311)
  (try clear HK)
  (try clear HB)
  generalize ((((w27.setCell ⟨gb311, 0, none⟩ (.slice Ao28 t302.length co28)).setCell ⟨gb311, 1, none⟩ (.slice Ao30 t305.length co30)).setCell ⟨gb311, 2, none⟩ (.int .i64 t308)).setCell ⟨gb311, 3, none⟩ (.int .i64 t309)) = w36 at n0_ n1_ n2_ n3_ n4_ n5_ n6_ n7_ ⊢
  have HO0_2 := n0_
  have HO0_3 := n1_
  have HO304 := n2_
  have HO307 := n3_
  have BK0 := n4_
  have BK311 := n5_
  have HK := n6_
  have HB := n7_
  clear n0_ n1_ n2_ n3_ n4_ n5_ n6_ n7_
  obtain ⟨n0_, n1_, n2_, n3_, n4_, n5_, n6_, n7_⟩ := zD8 (zh HO0_2.out) (zh HO0_3.out) (zh HO304.out) (zh HO307.out) (ze BK0.out) (ze BK311.out) (Kept.drew HK.out) (zk HB.out)
  clear HO0_2 HO0_3 HO304 HO307 BK0 BK311 HK HB
  have HO0_2 := n0_
  have HO0_3 := n1_
  have HO304 := n2_
  have HO307 := n3_
  have BK0 := n4_
  have BK311 := n5_
  have HK := n6_
  have HB := n7_
  clear n0_ n1_ n2_ n3_ n4_ n5_ n6_ n7_
  refine start_ (n := 15) (S := fun w' => w'.cell? ⟨gi0, 0, none⟩ = some (.slice A0_0 l0_0.length c0_0) ∧ w'.cell? ⟨gi0, 1, none⟩ = some (.int .i64 a0_1) ∧ w'.cell? ⟨gi0, 2, none⟩ = some (u9000_) ∧ w'.cell? ⟨gi0, 3, none⟩ = some (u9001_) ∧ w'.cell? ⟨gi0, 4, none⟩ = some (.int .i64 a0_4) ∧ w'.cell? ⟨gi0, 5, none⟩ = some (.int .i64 a0_5) ∧ w'.cell? ⟨gi0, 6, none⟩ = some (.bool true) ∧ w'.cell? ⟨gb311, 0, none⟩ = some (.slice Ao28 t302.length co28) ∧ w'.cell? ⟨gb311, 1, none⟩ = some (.slice Ao30 t305.length co30) ∧ w'.cell? ⟨gb311, 2, none⟩ = some (.int .i64 t308) ∧ w'.cell? ⟨gb311, 3, none⟩ = some (.int .i64 t309)) (ds := []) b6A21 zG125 rfl rfl ⟨(zl BK0.out 0).trans rfl, (zl BK0.out 1).trans rfl, (zl BK0.out 2).trans rfl, (zl BK0.out 3).trans rfl, (zl BK0.out 4).trans rfl, (zl BK0.out 5).trans rfl, (zl BK0.out 6).trans rfl, (zl BK311.out 0).trans rfl, (zl BK311.out 1).trans rfl, (zl BK311.out 2).trans rfl, (zl BK311.out 3).trans rfl⟩ (fun hHeld => ?_); refine with_tabW spec_l20Search_try.tab3 spec_l20Search_try.bits3 (fun HT_ HW_ => ?_)
  generalize w36.drew = w37 at HO0_2 HO0_3 HO304 HO307 BK0 BK311 HK HB hHeld ⊢
  refine zP 0 32 b6A22 HT_ ?_
  refine zP 1 33 b6A23 HT_ ?_
  refine zP 2 34 b6A24 HT_ ?_
  refine zQ 3 35 b6A25 HT_ HW_ hHeld ?_
  refine zP 4 36 b6A26 HT_ ?_
  refine zP 5 37 b6A27 HT_ ?_
  refine zP 6 38 b6A28 HT_ ?_
  refine zP 8 40 b6A33 HT_ ?_
  refine zP 9 41 b6A34 HT_ ?_
  refine zP 10 42 b6A35 HT_ ?_
  refine zP 11 43 b6A36 HT_ ?_
  refine zQ 7 39 b6A29 HT_ HW_ hHeld ?_
  refine zQ 12 44 b6A30 HT_ HW_ hHeld ?_
  refine zP 13 45 b6A31 HT_ ?_
  refine zP 14 46 b6A32 HT_ ?_
  refine done_ (done_of HT_.out zG125) ?_
  try go_wp2
  first | go_end0 | ((try simp only [Exit.inBlock, Exit.then]); refine bodyPost_ret (results_none rfl _ _ _) rfl ?_)
  exact ⟨_, _, zH92, by (with_reducible repeat (first | apply zf | apply zg | apply zh)); exact zo HO0_2.out (fun _ hk => ⟨hk.1, hk.2.1⟩), by (with_reducible repeat (first | apply zf | apply zg | apply zh)); exact zo HO0_3.out (fun _ hk => ⟨hk.1, hk.2.1⟩), zG106, zH54, zH33⟩
 rw [if_pos c7] at H
 have c7b0 := decide_eq_true c7
 clear c7
 simp only [Option.some.injEq, Prod.mk.injEq] at H
 obtain ⟨rfl, rfl, rfl, rfl, rfl⟩ := H
 go_enter Try.func69, Try.ntmps69
 try go_wp2
 obtain ⟨n0_, n1_, n2_, n3_, n4_⟩ := zD5 (zh HO0_2.out) (zh HO0_3.out) (ze BK0.out) (Kept.drew HK.out) (zk HB.out)
 clear HO0_2 HO0_3 BK0 HK HB
 have HO0_2 := n0_
 have HO0_3 := n1_
 have BK0 := n2_
 have HK := n3_
 have HB := n4_
 clear n0_ n1_ n2_ n3_ n4_
 refine start_ (n := 16) (S := fun w' => w'.cell? ⟨gi0, 0, none⟩ = some (.slice A0_0 l0_0.length c0_0) ∧ w'.cell? ⟨gi0, 1, none⟩ = some (.int .i64 a0_1) ∧ w'.cell? ⟨gi0, 2, none⟩ = some (u9000_) ∧ w'.cell? ⟨gi0, 3, none⟩ = some (u9001_) ∧ w'.cell? ⟨gi0, 4, none⟩ = some (.int .i64 a0_4) ∧ w'.cell? ⟨gi0, 5, none⟩ = some (.int .i64 a0_5) ∧ w'.cell? ⟨gi0, 6, none⟩ = some (.bool true)) (ds := []) b6A1 zG125 rfl rfl ⟨(zl BK0.out 0).trans rfl, (zl BK0.out 1).trans rfl, (zl BK0.out 2).trans rfl, (zl BK0.out 3).trans rfl, (zl BK0.out 4).trans rfl, (zl BK0.out 5).trans rfl, (zl BK0.out 6).trans rfl⟩ (fun hHeld => ?_); refine with_tabW spec_l20Search_try.tab0 spec_l20Search_try.bits0 (fun HT_ HW_ => ?_)
 generalize w.drew = w8 at HO0_2 HO0_3 BK0 HK HB hHeld ⊢
 refine zP 0 10 b6A2 HT_ ?_
 refine zP 1 11 b6A3 HT_ ?_
 refine zP 2 12 b6A4 HT_ ?_
 refine zP 4 14 b6A5 HT_ ?_
 refine zP 5 15 b6A6 HT_ ?_
 refine zP 6 16 b6A7 HT_ ?_
 refine zP 8 18 b6A8 HT_ ?_
 refine zQ 3 13 b6A9 HT_ HW_ hHeld ?_
 refine zQ 7 17 b6A10 HT_ HW_ hHeld ?_
 refine join_ (σ := Value × Value × Nat) 2 b6A0 (fun s_ => [(19, .tuple #[.agg #[s_.1, s_.2.1, .int .i64 t308, .int .i64 t309], .bool true]), (4, .pointer (some ⟨s_.2.2, 0, none⟩)), (9, .tuple #[.agg #[s_.1, s_.2.1, .int .i64 t308, .int .i64 t309], .bool true]), (20, .agg #[s_.1, s_.2.1, .int .i64 t308, .int .i64 t309]), (21, .bool true)]) (fun s_ w' => (w'.cell? ⟨gi0, 0, none⟩ = some (.slice A0_0 l0_0.length c0_0) ∧ w'.cell? ⟨gi0, 1, none⟩ = some (.int .i64 a0_1) ∧ w'.cell? ⟨gi0, 2, none⟩ = some (u9000_) ∧ w'.cell? ⟨gi0, 3, none⟩ = some (u9001_) ∧ w'.cell? ⟨gi0, 4, none⟩ = some (.int .i64 a0_4) ∧ w'.cell? ⟨gi0, 5, none⟩ = some (.int .i64 a0_5) ∧ w'.cell? ⟨gi0, 6, none⟩ = some (.bool true)) ∧ (Kd.R (Kd.int .i64) 3 w' w0.heap.size (fun k_ => ((P0_2_ k_ ∨ P0_3_ k_) ∨ w.heap.size ≤ k_) ∧ some k_ ≠ (u9001_ : Value).ownBlock ∧ some k_ ≠ (s_.1 : Value).ownBlock ∧ some k_ ≠ (s_.2.1 : Value).ownBlock) u9000_ l0_2) ∧ (Kd.R (Kd.int .i64) 3 w' w0.heap.size (fun k_ => ((P0_2_ k_ ∨ P0_3_ k_) ∨ w.heap.size ≤ k_) ∧ some k_ ≠ (u9000_ : Value).ownBlock ∧ some k_ ≠ (s_.1 : Value).ownBlock ∧ some k_ ≠ (s_.2.1 : Value).ownBlock) u9001_ l0_3) ∧ (Kd.R (Kd.int .i64) 3 w' w0.heap.size (fun k_ => ((P0_2_ k_ ∨ P0_3_ k_) ∨ w.heap.size ≤ k_) ∧ some k_ ≠ (u9000_ : Value).ownBlock ∧ some k_ ≠ (u9001_ : Value).ownBlock ∧ some k_ ≠ (s_.2.1 : Value).ownBlock) s_.1 t302) ∧ (Kd.R (Kd.int .i64) 3 w' w0.heap.size (fun k_ => ((P0_2_ k_ ∨ P0_3_ k_) ∨ w.heap.size ≤ k_) ∧ some k_ ≠ (u9000_ : Value).ownBlock ∧ some k_ ≠ (u9001_ : Value).ownBlock ∧ some k_ ≠ (s_.1 : Value).ownBlock) s_.2.1 t305) ∧ (w'.heap[gi0]? = some (.cells #[.slice A0_0 l0_0.length c0_0, .int .i64 a0_1, u9000_, u9001_, .int .i64 a0_4, .int .i64 a0_5, .bool true] 113 (0, 0))) ∧ (w'.heap[s_.2.2]? = some (.cells #[.slice none 0 0, .slice none 0 0, .int .i64 0, .int .i64 0] 28 (0, 0))) ∧ (w.heap.size ≤ s_.2.2) ∧ (w0.heap.size ≤ s_.2.2) ∧ (gi0 ≠ s_.2.2) ∧ (s_.2.2 ≠ gi0) ∧ (Kept w w' (fun k_ => (P0_2_ k_ ∨ P0_3_ k_) ∨ k_ = gi0)) ∧ (Below w0.heap.size w0 w')) ?_ ?_
 rotate_left
 ·intro hCont
  refine two_ (i := 9) (j := 13) (Ni := some 19) (Nj := some 4) b6A11 b6A12 rfl rfl rfl rfl (two_of HT_.out zG125) zG126 zG126 (fun K hK => ?_) (fun K hK => ?_)
  ·skip
   refine goes_ Try.func123 zG125 rfl #[.slice A0_0 l0_0.length c0_0, .int .i64 a0_1, .slice A1 l1.length c1] (by rfl) rfl rfl zG87 ?_
   with_reducible refine (spec_l20Route.calls k _ _ l0_0 a0_1 _ _ l1 t302 t305 t308 t309 true _ ?side1 ?side2 ?side3 ?side4 A3.out).mono ?_
   (case side1 => exact zaj HR0_0.out zG84)
   (case side2 => exact HC0_0.out)
   (case side3 => exact zaj HR1.out zG84)
   (case side4 => exact HC1.out)
   rintro e w9 ⟨v303, v306, rfl, ho0, ho1, hb⟩
   refine ⟨_, rfl, ?_⟩
   obtain ⟨n0_, n1_, n2_, n3_, n4_, n5_, n6_⟩ := zD7 (zo (zaa (zaa (zaf zG117 hb) (zy ho0)) (zy ho1)) (fun _ h_ => h_.1)) (zo (zaa (zaa (zaf zG118 hb) (zy ho0)) (zy ho1)) (fun _ h_ => h_.1)) (zae (zz (zz (zap (M := fun k_ => ((P0_2_ k_ ∨ P0_3_ k_) ∨ w.heap.size ≤ k_)) ho0 zG78 (fun k_ h_ => .inr h_)) (zab zG117)) (zab zG118)) (zt zG94)) (zae (zz (zz (zap (M := fun k_ => ((P0_2_ k_ ∨ P0_3_ k_) ∨ w.heap.size ≤ k_)) ho1 zG78 (fun k_ h_ => .inr h_)) (zab zG117)) (zab zG118)) (zt zG94)) (zs (g := gi0) (o := .cells #[.slice A0_0 l0_0.length c0_0, .int .i64 a0_1, u9000_, u9001_, .int .i64 a0_4, .int .i64 a0_5, .bool true] 113 (0, 0)) zG106 hb) (Kept.below (S := (fun k_ => (P0_2_ k_ ∨ P0_3_ k_) ∨ k_ = gi0)) zG84 hb) (zv zG94 hb)
   clear HO0_2 HO0_3 BK0 HK HB
   have HO0_2 := n0_
   have HO0_3 := n1_
   have HO304 := n2_
   have HO307 := n3_
   have BK0 := n4_
   have HK := n5_
   have HB := n6_
   clear n0_ n1_ n2_ n3_ n4_ n5_ n6_
   (try clear hb)
   (try clear hb2)
   (try clear hk)
   (try clear hi)
   (try clear ho0)
   (try clear ho1)
   refine hK.out _ _ ⟨(zl BK0.out 0).trans rfl, (zl BK0.out 1).trans rfl, (zl BK0.out 2).trans rfl, (zl BK0.out 3).trans rfl, (zl BK0.out 4).trans rfl, (zl BK0.out 5).trans rfl, (zl BK0.out 6).trans rfl⟩ (fun hHeld => ?_)
   clear hK K
   refine norm_ (a' := ?_) ?_ ?_
   rotate_left
   ·show Act.put _ (some 19) _ = _
    simp only [Act.put, List.setIfInBounds_toArray, List.set_cons_zero, List.set_cons_succ, i64_w, i32_w]
    rfl
   refine zP 10 9 b6A13 HT_ ?_
   refine zP 11 20 b6A14 HT_ ?_
   refine zP 12 21 b6A15 HT_ ?_
   refine one_ (i := 13) (N := some 4) b6A0 rfl rfl (one_of HT_.out zG125) zG126 (fun K hK => ?_)
   refine box_step ?hg (N := 4) ?hd (cs := #[.slice none 0 0, .slice none 0 0, .int .i64 0, .int .i64 0]) (t := 28) ?hr ?_; (case hd => rfl); (case hg => rfl); (case hr => exact zH103)
   intro gb311 hg w10 hbox hb
   obtain ⟨n0_, n1_, n2_, n3_, n4_, n5_, n6_, n7_, n8_, n9_, n10_, n11_⟩ := zD12 (zp zG117 hb) (zp zG118 hb) (zp zK203 hb) (zp zK204 hb) (zs (g := gi0) (o := .cells #[.slice A0_0 l0_0.length c0_0, .int .i64 a0_1, u9000_, u9001_, .int .i64 a0_4, .int .i64 a0_5, .bool true] 113 (0, 0)) zG106 hb) (Kept.below (S := (fun k_ => (P0_2_ k_ ∨ P0_3_ k_) ∨ k_ = gi0)) zG84 hb) (zv zG94 hb) (hbox) ((by rw [hg]; exact zG78 : w.heap.size ≤ gb311)) ((by rw [hg]; exact (zt zG94) : w0.heap.size ≤ gb311)) ((by rw [hg]; exact Nat.ne_of_lt (zac (g := gi0) (o := .cells #[.slice A0_0 l0_0.length c0_0, .int .i64 a0_1, u9000_, u9001_, .int .i64 a0_4, .int .i64 a0_5, .bool true] 113 (0, 0)) zG106) : gi0 ≠ gb311)) ((by rw [hg]; exact Nat.ne_of_gt (zac (g := gi0) (o := .cells #[.slice A0_0 l0_0.length c0_0, .int .i64 a0_1, u9000_, u9001_, .int .i64 a0_4, .int .i64 a0_5, .bool true] 113 (0, 0)) zG106) : gb311 ≠ gi0))
   clear HO0_2 HO0_3 HO304 HO307 BK0 HK HB
   have HO0_2 := n0_
   have HO0_3 := n1_
   have HO304 := n2_
   have HO307 := n3_
   have BK0 := n4_
   have HK := n5_
   have HB := n6_
   have BK311 := n7_
   have GW311 := n8_
   have GE311 := n9_
   have NB0_311 := n10_
   have NB311_0 := n11_
   clear n0_ n1_ n2_ n3_ n4_ n5_ n6_ n7_ n8_ n9_ n10_ n11_
   clear hb hbox hg
   refine hK.out _ _ ⟨(zl BK0.out 0).trans rfl, (zl BK0.out 1).trans rfl, (zl BK0.out 2).trans rfl, (zl BK0.out 3).trans rfl, (zl BK0.out 4).trans rfl, (zl BK0.out 5).trans rfl, (zl BK0.out 6).trans rfl⟩ (fun hHeld => ?_)
   clear hK K
   refine norm_ (a' := ?_) ?_ ?_
   rotate_left
   ·show Act.put _ (some 4) _ = _
    simp only [Act.put, List.setIfInBounds_toArray, List.set_cons_zero, List.set_cons_succ, i64_w, i32_w]
    rfl
   exact norm_ zK190 (hCont (v303, v306, gb311) _ ⟨hHeld, zG88, zG89, zG90, zG91, zG106, zG96, GW311.out, GE311.out, NB0_311.out, NB311_0.out, zG80, zG86⟩)
  ·skip
   refine box_step ?hg (N := 4) ?hd (cs := #[.slice none 0 0, .slice none 0 0, .int .i64 0, .int .i64 0]) (t := 28) ?hr ?_; (case hd => rfl); (case hg => rfl); (case hr => exact zH103)
   intro gb311 hg w9 hbox hb
   obtain ⟨n0_, n1_, n2_, n3_, n4_, n5_, n6_, n7_, n8_, n9_⟩ := zD10 (zp zG117 hb) (zp zG118 hb) (zs (g := gi0) (o := .cells #[.slice A0_0 l0_0.length c0_0, .int .i64 a0_1, u9000_, u9001_, .int .i64 a0_4, .int .i64 a0_5, .bool true] 113 (0, 0)) zG106 hb) (Kept.below (S := (fun k_ => (P0_2_ k_ ∨ P0_3_ k_) ∨ k_ = gi0)) zG84 hb) (zv zG94 hb) (hbox) ((by rw [hg]; exact zG78 : w.heap.size ≤ gb311)) ((by rw [hg]; exact (zt zG94) : w0.heap.size ≤ gb311)) ((by rw [hg]; exact Nat.ne_of_lt (zac (g := gi0) (o := .cells #[.slice A0_0 l0_0.length c0_0, .int .i64 a0_1, u9000_, u9001_, .int .i64 a0_4, .int .i64 a0_5, .bool true] 113 (0, 0)) zG106) : gi0 ≠ gb311)) ((by rw [hg]; exact Nat.ne_of_gt (zac (g := gi0) (o := .cells #[.slice A0_0 l0_0.length c0_0, .int .i64 a0_1, u9000_, u9001_, .int .i64 a0_4, .int .i64 a0_5, .bool true] 113 (0, 0)) zG106) : gb311 ≠ gi0))
   clear HO0_2 HO0_3 BK0 HK HB
   have HO0_2 := n0_
   have HO0_3 := n1_
   have BK0 := n2_
   have HK := n3_
   have HB := n4_
   have BK311 := n5_
   have GW311 := n6_
   have GE311 := n7_
   have NB0_311 := n8_
   have NB311_0 := n9_
   clear n0_ n1_ n2_ n3_ n4_ n5_ n6_ n7_ n8_ n9_
   clear hb hbox hg
   refine hK.out _ _ ⟨(zl BK0.out 0).trans rfl, (zl BK0.out 1).trans rfl, (zl BK0.out 2).trans rfl, (zl BK0.out 3).trans rfl, (zl BK0.out 4).trans rfl, (zl BK0.out 5).trans rfl, (zl BK0.out 6).trans rfl⟩ (fun hHeld => ?_)
   clear hK K
   refine norm_ (a' := ?_) ?_ ?_
   rotate_left
   ·show Act.put _ (some 4) _ = _
    simp only [Act.put, List.setIfInBounds_toArray, List.set_cons_zero, List.set_cons_succ, i64_w, i32_w]
    rfl
   refine one_ (i := 9) (N := some 19) b6A16 rfl rfl (one_of HT_.out zG125) zG126 (fun K hK => ?_)
   refine goes_ Try.func123 zG125 rfl #[.slice A0_0 l0_0.length c0_0, .int .i64 a0_1, .slice A1 l1.length c1] (by rfl) rfl rfl zG87 ?_
   with_reducible refine (spec_l20Route.calls k _ _ l0_0 a0_1 _ _ l1 t302 t305 t308 t309 true _ ?side1 ?side2 ?side3 ?side4 A3.out).mono ?_
   (case side1 => exact zaj HR0_0.out zG80)
   (case side2 => exact HC0_0.out)
   (case side3 => exact zaj HR1.out zG80)
   (case side4 => exact HC1.out)
   rintro e w10 ⟨v303, v306, rfl, ho0, ho1, hb⟩
   refine ⟨_, rfl, ?_⟩
   obtain ⟨n0_, n1_, n2_, n3_, n4_, n5_, n6_, n7_⟩ := zD8 (zo (zaa (zaa (zaf zG117 hb) (zy ho0)) (zy ho1)) (fun _ h_ => h_.1)) (zo (zaa (zaa (zaf zG118 hb) (zy ho0)) (zy ho1)) (fun _ h_ => h_.1)) (zae (zz (zz (zap (M := fun k_ => ((P0_2_ k_ ∨ P0_3_ k_) ∨ w.heap.size ≤ k_)) ho0 zG77 (fun k_ h_ => .inr h_)) (zab zG117)) (zab zG118)) (zt zG86)) (zae (zz (zz (zap (M := fun k_ => ((P0_2_ k_ ∨ P0_3_ k_) ∨ w.heap.size ≤ k_)) ho1 zG77 (fun k_ h_ => .inr h_)) (zab zG117)) (zab zG118)) (zt zG86)) (zs (g := gi0) (o := .cells #[.slice A0_0 l0_0.length c0_0, .int .i64 a0_1, u9000_, u9001_, .int .i64 a0_4, .int .i64 a0_5, .bool true] 113 (0, 0)) zG106 hb) (zs (g := gb311) (o := .cells #[.slice none 0 0, .slice none 0 0, .int .i64 0, .int .i64 0] 28 (0, 0)) zG96 hb) (Kept.below (S := (fun k_ => (P0_2_ k_ ∨ P0_3_ k_) ∨ k_ = gi0)) zG80 hb) (zv zG86 hb)
   clear HO0_2 HO0_3 BK0 BK311 HK HB
   have HO0_2 := n0_
   have HO0_3 := n1_
   have HO304 := n2_
   have HO307 := n3_
   have BK0 := n4_
   have BK311 := n5_
   have HK := n6_
   have HB := n7_
   clear n0_ n1_ n2_ n3_ n4_ n5_ n6_ n7_
   (try clear hb)
   (try clear hb2)
   (try clear hk)
   (try clear hi)
   (try clear ho0)
   (try clear ho1)
   refine hK.out _ _ ⟨(zl BK0.out 0).trans rfl, (zl BK0.out 1).trans rfl, (zl BK0.out 2).trans rfl, (zl BK0.out 3).trans rfl, (zl BK0.out 4).trans rfl, (zl BK0.out 5).trans rfl, (zl BK0.out 6).trans rfl⟩ (fun hHeld => ?_)
   clear hK K
   refine norm_ (a' := ?_) ?_ ?_
   rotate_left
   ·show Act.put _ (some 19) _ = _
    simp only [Act.put, List.setIfInBounds_toArray, List.set_cons_zero, List.set_cons_succ, i64_w, i32_w]
    rfl
   refine zP 10 9 b6A17 HT_ ?_
   refine zP 11 20 b6A18 HT_ ?_
   refine zP 12 21 b6A0 HT_ ?_
   exact norm_ zK190 (hCont (v303, v306, gb311) _ ⟨hHeld, zG88, zG89, zG90, zG91, zG106, zG96, GW311.out, GE311.out, NB0_311.out, NB311_0.out, zG80, zG86⟩)
 rintro ⟨v303, v306, gb311⟩ w11 ⟨hS_, h0_, h1_, h2_, h3_, h4_, h5_, h6_, h7_, h8_, h9_, h10_, h11_⟩
 have n0_ : Aside0 (Kd.R (Kd.int .i64) 3 w11 w0.heap.size (fun k_ => ((P0_2_ k_ ∨ P0_3_ k_) ∨ w.heap.size ≤ k_) ∧ some k_ ≠ (u9001_ : Value).ownBlock ∧ some k_ ≠ (v303 : Value).ownBlock ∧ some k_ ≠ (v306 : Value).ownBlock) u9000_ l0_2) := ⟨h0_⟩
 have n1_ : Aside0 (Kd.R (Kd.int .i64) 3 w11 w0.heap.size (fun k_ => ((P0_2_ k_ ∨ P0_3_ k_) ∨ w.heap.size ≤ k_) ∧ some k_ ≠ (u9000_ : Value).ownBlock ∧ some k_ ≠ (v303 : Value).ownBlock ∧ some k_ ≠ (v306 : Value).ownBlock) u9001_ l0_3) := ⟨h1_⟩
 have n2_ : Aside0 (Kd.R (Kd.int .i64) 3 w11 w0.heap.size (fun k_ => ((P0_2_ k_ ∨ P0_3_ k_) ∨ w.heap.size ≤ k_) ∧ some k_ ≠ (u9000_ : Value).ownBlock ∧ some k_ ≠ (u9001_ : Value).ownBlock ∧ some k_ ≠ (v306 : Value).ownBlock) v303 t302) := ⟨h2_⟩
 have n3_ : Aside0 (Kd.R (Kd.int .i64) 3 w11 w0.heap.size (fun k_ => ((P0_2_ k_ ∨ P0_3_ k_) ∨ w.heap.size ≤ k_) ∧ some k_ ≠ (u9000_ : Value).ownBlock ∧ some k_ ≠ (u9001_ : Value).ownBlock ∧ some k_ ≠ (v303 : Value).ownBlock) v306 t305) := ⟨h3_⟩
 have n4_ : Aside0 (w11.heap[gi0]? = some (.cells #[.slice A0_0 l0_0.length c0_0, .int .i64 a0_1, u9000_, u9001_, .int .i64 a0_4, .int .i64 a0_5, .bool true] 113 (0, 0))) := ⟨h4_⟩
 have n5_ : Aside0 (w11.heap[gb311]? = some (.cells #[.slice none 0 0, .slice none 0 0, .int .i64 0, .int .i64 0] 28 (0, 0))) := ⟨h5_⟩
 have n6_ : Aside0 (w.heap.size ≤ gb311) := ⟨h6_⟩
 have n7_ : Aside0 (w0.heap.size ≤ gb311) := ⟨h7_⟩
 have n8_ : Aside0 (gi0 ≠ gb311) := ⟨h8_⟩
 have n9_ : Aside0 (gb311 ≠ gi0) := ⟨h9_⟩
 have n10_ : Aside0 (Kept w w11 (fun k_ => (P0_2_ k_ ∨ P0_3_ k_) ∨ k_ = gi0)) := ⟨h10_⟩
 have n11_ : Aside0 (Below w0.heap.size w0 w11) := ⟨h11_⟩
 clear HO0_2
 clear HO0_3
 clear BK0
 clear HK
 clear HB
 clear h0_ h1_ h2_ h3_ h4_ h5_ h6_ h7_ h8_ h9_ h10_ h11_
 have HO0_2 := n0_
 have HO0_3 := n1_
 have HO304 := n2_
 have HO307 := n3_
 have BK0 := n4_
 have BK311 := n5_
 have GW311 := n6_
 have GE311 := n7_
 have NB0_311 := n8_
 have NB311_0 := n9_
 have HK := n10_
 have HB := n11_
 clear n0_ n1_ n2_ n3_ n4_ n5_ n6_ n7_ n8_ n9_ n10_ n11_
 have hHeld : w11.cell? ⟨gi0, 0, none⟩ = some (.slice A0_0 l0_0.length c0_0) ∧ w11.cell? ⟨gi0, 1, none⟩ = some (.int .i64 a0_1) ∧ w11.cell? ⟨gi0, 2, none⟩ = some (u9000_) ∧ w11.cell? ⟨gi0, 3, none⟩ = some (u9001_) ∧ w11.cell? ⟨gi0, 4, none⟩ = some (.int .i64 a0_4) ∧ w11.cell? ⟨gi0, 5, none⟩ = some (.int .i64 a0_5) ∧ w11.cell? ⟨gi0, 6, none⟩ = some (.bool true) := hS_
 obtain ⟨Ao12, co12, eo12⟩ := zad HO304.out
 (first | subst eo12 | (injection eo12 with f1_ f2_ f3_; have f4_ := f1_.symm; have f5_ := f3_.symm; clear f1_ f2_ f3_; subst f4_; subst f5_))
 obtain ⟨Ao14, co14, eo14⟩ := zad HO307.out
 (first | subst eo14 | (injection eo14 with f1_ f2_ f3_; have f4_ := f1_.symm; have f5_ := f3_.symm; clear f1_ f2_ f3_; subst f4_; subst f5_))
 refine norm_ (a' := ?_) ?_ ?_
 rotate_left
 ·simp only [putAll, Act.put, List.setIfInBounds_toArray, List.set_cons_zero, List.set_cons_succ]
  rfl
 refine one_ (i := 14) (N := none) b6A19 rfl rfl (one_of HT_.out zG125) zG126 (fun K hK => ?_)
 have hs13 : w11.cell? ⟨gb311, 0, none⟩ = some (.slice none 0 0) := (zl BK311.out 0).trans rfl
 have hfs13 := zn BK311.out 0
 have hns13_0 := NB0_311.out
 have hms13_0 := NB311_0.out
 have hs15 : w11.cell? ⟨gb311, 1, none⟩ = some (.slice none 0 0) := (zl BK311.out 1).trans rfl
 have hfs15 := zn BK311.out 1
 have hns15_0 := NB0_311.out
 have hms15_0 := NB311_0.out
 have hs16 : w11.cell? ⟨gb311, 2, none⟩ = some (.int .i64 0) := (zl BK311.out 2).trans rfl
 have hfs16 := zn BK311.out 2
 have hns16_0 := NB0_311.out
 have hms16_0 := NB311_0.out
 have hs17 : w11.cell? ⟨gb311, 3, none⟩ = some (.int .i64 0) := (zl BK311.out 3).trans rfl
 have hfs17 := zn BK311.out 3
 have hns17_0 := NB0_311.out
 have hms17_0 := NB311_0.out
 refine skip_ (w1 := ?_) (by rfl) rfl ?_ ?_
 rotate_left
 ·go_simp
  rfl
 refine hK.out _ _ ⟨((cell_far (p := ⟨gb311, _, none⟩) NB0_311.out _).trans (((cell_far (p := ⟨gb311, _, none⟩) NB0_311.out _).trans (((cell_far (p := ⟨gb311, _, none⟩) NB0_311.out _).trans (((cell_far (p := ⟨gb311, _, none⟩) NB0_311.out _).trans (hHeld.1)))))))), ((cell_far (p := ⟨gb311, _, none⟩) NB0_311.out _).trans (((cell_far (p := ⟨gb311, _, none⟩) NB0_311.out _).trans (((cell_far (p := ⟨gb311, _, none⟩) NB0_311.out _).trans (((cell_far (p := ⟨gb311, _, none⟩) NB0_311.out _).trans (hHeld.2.1)))))))), ((cell_far (p := ⟨gb311, _, none⟩) NB0_311.out _).trans (((cell_far (p := ⟨gb311, _, none⟩) NB0_311.out _).trans (((cell_far (p := ⟨gb311, _, none⟩) NB0_311.out _).trans (((cell_far (p := ⟨gb311, _, none⟩) NB0_311.out _).trans (hHeld.2.2.1)))))))), ((cell_far (p := ⟨gb311, _, none⟩) NB0_311.out _).trans (((cell_far (p := ⟨gb311, _, none⟩) NB0_311.out _).trans (((cell_far (p := ⟨gb311, _, none⟩) NB0_311.out _).trans (((cell_far (p := ⟨gb311, _, none⟩) NB0_311.out _).trans (hHeld.2.2.2.1)))))))), ((cell_far (p := ⟨gb311, _, none⟩) NB0_311.out _).trans (((cell_far (p := ⟨gb311, _, none⟩) NB0_311.out _).trans (((cell_far (p := ⟨gb311, _, none⟩) NB0_311.out _).trans (((cell_far (p := ⟨gb311, _, none⟩) NB0_311.out _).trans (hHeld.2.2.2.2.1)))))))), ((cell_far (p := ⟨gb311, _, none⟩) NB0_311.out _).trans (((cell_far (p := ⟨gb311, _, none⟩) NB0_311.out _).trans (((cell_far (p := ⟨gb311, _, none⟩) NB0_311.out _).trans (((cell_far (p := ⟨gb311, _, none⟩) NB0_311.out _).trans (hHeld.2.2.2.2.2.1)))))))), ((cell_far (p := ⟨gb311, _, none⟩) NB0_311.out _).trans (((cell_far (p := ⟨gb311, _, none⟩) NB0_311.out _).trans (((cell_far (p := ⟨gb311, _, none⟩) NB0_311.out _).trans (((cell_far (p := ⟨gb311, _, none⟩) NB0_311.out _).trans (hHeld.2.2.2.2.2.2))))))))⟩ (fun hHeld => ?_)
 clear hK K
 refine zP 15 5 b6A20 HT_ ?_
 refine done_ (done_of HT_.out zG125) ?_
 have hnb18 := NB0_311.out
 have hnc18 := NB311_0.out
 obtain ⟨hcz19_0, hcz19_1, hcz19_2, hcz19_3, hcz19_4, hcz19_5, hcz19_6, hfz19_0, hfz19_1, hfz19_2, hfz19_3, hfz19_4, hfz19_5, hfz19_6⟩ := zB7 BK0.out
 try go_wp2
 have n0_ : Aside0 (Kd.R (Kd.int .i64) 3 ((((w11.setCell ⟨gb311, 0, none⟩ (.slice Ao12 t302.length co12)).setCell ⟨gb311, 1, none⟩ (.slice Ao14 t305.length co14)).setCell ⟨gb311, 2, none⟩ (.int .i64 t308)).setCell ⟨gb311, 3, none⟩ (.int .i64 t309)) w0.heap.size (fun k_ => ((P0_2_ k_ ∨ P0_3_ k_) ∨ w.heap.size ≤ k_) ∧ some k_ ≠ (u9001_ : Value).ownBlock ∧ some k_ ≠ (.slice Ao12 t302.length co12 : Value).ownBlock ∧ some k_ ≠ (.slice Ao14 t305.length co14 : Value).ownBlock) u9000_ l0_2) := ⟨by (with_reducible repeat (first | apply zf | apply zg | apply zh)); exact zo (zd (p := ⟨gb311, 3, none⟩) (zd (p := ⟨gb311, 2, none⟩) (zd (p := ⟨gb311, 1, none⟩) (zd (p := ⟨gb311, 0, none⟩) (zq HO0_2.out BK311.out zG126) (fun _ hk => hk.2) (.slice Ao12 t302.length co12)) (fun _ hk => hk.2) (.slice Ao14 t305.length co14)) (fun _ hk => hk.2) (.int .i64 t308)) (fun _ hk => hk.2) (.int .i64 t309)) (fun _ hk => ⟨hk.1.1, ⟨hk.1.2.1, ⟨hk.1.2.2.1, hk.1.2.2.2⟩⟩⟩)⟩
 have n1_ : Aside0 (Kd.R (Kd.int .i64) 3 ((((w11.setCell ⟨gb311, 0, none⟩ (.slice Ao12 t302.length co12)).setCell ⟨gb311, 1, none⟩ (.slice Ao14 t305.length co14)).setCell ⟨gb311, 2, none⟩ (.int .i64 t308)).setCell ⟨gb311, 3, none⟩ (.int .i64 t309)) w0.heap.size (fun k_ => ((P0_2_ k_ ∨ P0_3_ k_) ∨ w.heap.size ≤ k_) ∧ some k_ ≠ (u9000_ : Value).ownBlock ∧ some k_ ≠ (.slice Ao12 t302.length co12 : Value).ownBlock ∧ some k_ ≠ (.slice Ao14 t305.length co14 : Value).ownBlock) u9001_ l0_3) := ⟨by (with_reducible repeat (first | apply zf | apply zg | apply zh)); exact zo (zd (p := ⟨gb311, 3, none⟩) (zd (p := ⟨gb311, 2, none⟩) (zd (p := ⟨gb311, 1, none⟩) (zd (p := ⟨gb311, 0, none⟩) (zq HO0_3.out BK311.out zG126) (fun _ hk => hk.2) (.slice Ao12 t302.length co12)) (fun _ hk => hk.2) (.slice Ao14 t305.length co14)) (fun _ hk => hk.2) (.int .i64 t308)) (fun _ hk => hk.2) (.int .i64 t309)) (fun _ hk => ⟨hk.1.1, ⟨hk.1.2.1, ⟨hk.1.2.2.1, hk.1.2.2.2⟩⟩⟩)⟩
 have n2_ : Aside0 (Kd.R (Kd.int .i64) 3 ((((w11.setCell ⟨gb311, 0, none⟩ (.slice Ao12 t302.length co12)).setCell ⟨gb311, 1, none⟩ (.slice Ao14 t305.length co14)).setCell ⟨gb311, 2, none⟩ (.int .i64 t308)).setCell ⟨gb311, 3, none⟩ (.int .i64 t309)) w0.heap.size (fun k_ => ((P0_2_ k_ ∨ P0_3_ k_) ∨ w.heap.size ≤ k_) ∧ some k_ ≠ (u9000_ : Value).ownBlock ∧ some k_ ≠ (u9001_ : Value).ownBlock ∧ some k_ ≠ (.slice Ao14 t305.length co14 : Value).ownBlock) (.slice Ao12 t302.length co12) t302) := ⟨by (with_reducible repeat (first | apply zf | apply zg | apply zh)); exact zo (zd (p := ⟨gb311, 3, none⟩) (zd (p := ⟨gb311, 2, none⟩) (zd (p := ⟨gb311, 1, none⟩) (zd (p := ⟨gb311, 0, none⟩) (zq HO304.out BK311.out zG126) (fun _ hk => hk.2) (.slice Ao12 t302.length co12)) (fun _ hk => hk.2) (.slice Ao14 t305.length co14)) (fun _ hk => hk.2) (.int .i64 t308)) (fun _ hk => hk.2) (.int .i64 t309)) (fun _ hk => ⟨hk.1.1, ⟨hk.1.2.1, ⟨hk.1.2.2.1, hk.1.2.2.2⟩⟩⟩)⟩
 have n3_ : Aside0 (Kd.R (Kd.int .i64) 3 ((((w11.setCell ⟨gb311, 0, none⟩ (.slice Ao12 t302.length co12)).setCell ⟨gb311, 1, none⟩ (.slice Ao14 t305.length co14)).setCell ⟨gb311, 2, none⟩ (.int .i64 t308)).setCell ⟨gb311, 3, none⟩ (.int .i64 t309)) w0.heap.size (fun k_ => ((P0_2_ k_ ∨ P0_3_ k_) ∨ w.heap.size ≤ k_) ∧ some k_ ≠ (u9000_ : Value).ownBlock ∧ some k_ ≠ (u9001_ : Value).ownBlock ∧ some k_ ≠ (.slice Ao12 t302.length co12 : Value).ownBlock) (.slice Ao14 t305.length co14) t305) := ⟨by (with_reducible repeat (first | apply zf | apply zg | apply zh)); exact zo (zd (p := ⟨gb311, 3, none⟩) (zd (p := ⟨gb311, 2, none⟩) (zd (p := ⟨gb311, 1, none⟩) (zd (p := ⟨gb311, 0, none⟩) (zq HO307.out BK311.out zG126) (fun _ hk => hk.2) (.slice Ao12 t302.length co12)) (fun _ hk => hk.2) (.slice Ao14 t305.length co14)) (fun _ hk => hk.2) (.int .i64 t308)) (fun _ hk => hk.2) (.int .i64 t309)) (fun _ hk => ⟨hk.1.1, ⟨hk.1.2.1, ⟨hk.1.2.2.1, hk.1.2.2.2⟩⟩⟩)⟩
 have n4_ : Aside0 (((((w11.setCell ⟨gb311, 0, none⟩ (.slice Ao12 t302.length co12)).setCell ⟨gb311, 1, none⟩ (.slice Ao14 t305.length co14)).setCell ⟨gb311, 2, none⟩ (.int .i64 t308)).setCell ⟨gb311, 3, none⟩ (.int .i64 t309)).heap[gi0]? = some (.cells #[.slice A0_0 l0_0.length c0_0, .int .i64 a0_1, u9000_, u9001_, .int .i64 a0_4, .int .i64 a0_5, .bool true] 113 (0, 0))) := ⟨zH6⟩
 have n5_ : Aside0 (((((w11.setCell ⟨gb311, 0, none⟩ (.slice Ao12 t302.length co12)).setCell ⟨gb311, 1, none⟩ (.slice Ao14 t305.length co14)).setCell ⟨gb311, 2, none⟩ (.int .i64 t308)).setCell ⟨gb311, 3, none⟩ (.int .i64 t309)).heap[gb311]? = some (.cells #[.slice Ao12 t302.length co12, .slice Ao14 t305.length co14, .int .i64 t308, .int .i64 t309] 28 (0, 0))) := ⟨by (with_reducible repeat (first | refine zc ?_ _ | refine ze ?_ | refine zb ?_ _)); refine zu (cs := #[.slice Ao12 t302.length co12, .slice Ao14 t305.length co14, .int .i64 t308, .int .i64 0]) ?_ 3 _ rfl; (with_reducible repeat (first | refine zc ?_ _ | refine ze ?_ | refine zb ?_ _)); refine zu (cs := #[.slice Ao12 t302.length co12, .slice Ao14 t305.length co14, .int .i64 0, .int .i64 0]) ?_ 2 _ rfl; (with_reducible repeat (first | refine zc ?_ _ | refine ze ?_ | refine zb ?_ _)); refine zu (cs := #[.slice Ao12 t302.length co12, .slice none 0 0, .int .i64 0, .int .i64 0]) ?_ 1 _ rfl; (with_reducible repeat (first | refine zc ?_ _ | refine ze ?_ | refine zb ?_ _)); refine zu (cs := #[.slice none 0 0, .slice none 0 0, .int .i64 0, .int .i64 0]) ?_ 0 _ rfl; (with_reducible repeat (first | refine zc ?_ _ | refine ze ?_ | refine zb ?_ _)); exact BK311.out⟩
 have n6_ : Aside0 (Kept w ((((w11.setCell ⟨gb311, 0, none⟩ (.slice Ao12 t302.length co12)).setCell ⟨gb311, 1, none⟩ (.slice Ao14 t305.length co14)).setCell ⟨gb311, 2, none⟩ (.int .i64 t308)).setCell ⟨gb311, 3, none⟩ (.int .i64 t309)) (fun k_ => (P0_2_ k_ ∨ P0_3_ k_) ∨ k_ = gi0)) := ⟨zH33⟩
 have n7_ : Aside0 (Below w0.heap.size w0 ((((w11.setCell ⟨gb311, 0, none⟩ (.slice Ao12 t302.length co12)).setCell ⟨gb311, 1, none⟩ (.slice Ao14 t305.length co14)).setCell ⟨gb311, 2, none⟩ (.int .i64 t308)).setCell ⟨gb311, 3, none⟩ (.int .i64 t309))) := ⟨zH54⟩
 (try clear HO0_2)
 (try clear HO0_3)
 (try clear HO304)
 (try clear HO307)
 (try clear BK0)
 (try clear BK311)
 (try clear HK)
 (try clear HB)
 generalize ((((w11.setCell ⟨gb311, 0, none⟩ (.slice Ao12 t302.length co12)).setCell ⟨gb311, 1, none⟩ (.slice Ao14 t305.length co14)).setCell ⟨gb311, 2, none⟩ (.int .i64 t308)).setCell ⟨gb311, 3, none⟩ (.int .i64 t309)) = w20 at n0_ n1_ n2_ n3_ n4_ n5_ n6_ n7_ ⊢
 have HO0_2 := n0_
 have HO0_3 := n1_
 have HO304 := n2_
 have HO307 := n3_
 have BK0 := n4_
 have BK311 := n5_
 have HK := n6_
 have HB := n7_
 clear n0_ n1_ n2_ n3_ n4_ n5_ n6_ n7_
 obtain ⟨n0_, n1_, n2_, n3_, n4_, n5_, n6_, n7_⟩ := zD8 (zh HO0_2.out) (zh HO0_3.out) (zh HO304.out) (zh HO307.out) (ze BK0.out) (ze BK311.out) (Kept.drew HK.out) (zk HB.out)
 clear HO0_2 HO0_3 HO304 HO307 BK0 BK311 HK HB
 have HO0_2 := n0_
 have HO0_3 := n1_
 have HO304 := n2_
 have HO307 := n3_
 have BK0 := n4_
 have BK311 := n5_
 have HK := n6_
 have HB := n7_
 clear n0_ n1_ n2_ n3_ n4_ n5_ n6_ n7_
 refine start_ (n := 15) (S := fun w' => w'.cell? ⟨gi0, 0, none⟩ = some (.slice A0_0 l0_0.length c0_0) ∧ w'.cell? ⟨gi0, 1, none⟩ = some (.int .i64 a0_1) ∧ w'.cell? ⟨gi0, 2, none⟩ = some (u9000_) ∧ w'.cell? ⟨gi0, 3, none⟩ = some (u9001_) ∧ w'.cell? ⟨gi0, 4, none⟩ = some (.int .i64 a0_4) ∧ w'.cell? ⟨gi0, 5, none⟩ = some (.int .i64 a0_5) ∧ w'.cell? ⟨gi0, 6, none⟩ = some (.bool true) ∧ w'.cell? ⟨gb311, 0, none⟩ = some (.slice Ao12 t302.length co12) ∧ w'.cell? ⟨gb311, 1, none⟩ = some (.slice Ao14 t305.length co14) ∧ w'.cell? ⟨gb311, 2, none⟩ = some (.int .i64 t308) ∧ w'.cell? ⟨gb311, 3, none⟩ = some (.int .i64 t309)) (ds := []) b6A21 zG125 rfl rfl ⟨(zl BK0.out 0).trans rfl, (zl BK0.out 1).trans rfl, (zl BK0.out 2).trans rfl, (zl BK0.out 3).trans rfl, (zl BK0.out 4).trans rfl, (zl BK0.out 5).trans rfl, (zl BK0.out 6).trans rfl, (zl BK311.out 0).trans rfl, (zl BK311.out 1).trans rfl, (zl BK311.out 2).trans rfl, (zl BK311.out 3).trans rfl⟩ (fun hHeld => ?_); refine with_tabW spec_l20Search_try.tab3 spec_l20Search_try.bits3 (fun HT_ HW_ => ?_)
 generalize w20.drew = w21 at HO0_2 HO0_3 HO304 HO307 BK0 BK311 HK HB hHeld ⊢
 refine zP 0 32 b6A22 HT_ ?_
 refine zP 1 33 b6A23 HT_ ?_
 refine zP 2 34 b6A24 HT_ ?_
 refine zQ 3 35 b6A25 HT_ HW_ hHeld ?_
 refine zP 4 36 b6A26 HT_ ?_
 refine zP 5 37 b6A27 HT_ ?_
 refine zP 6 38 b6A28 HT_ ?_
 refine zP 8 40 b6A33 HT_ ?_
 refine zP 9 41 b6A34 HT_ ?_
 refine zP 10 42 b6A35 HT_ ?_
 refine zP 11 43 b6A36 HT_ ?_
 refine zQ 7 39 b6A29 HT_ HW_ hHeld ?_
 refine zQ 12 44 b6A30 HT_ HW_ hHeld ?_
 refine zP 13 45 b6A31 HT_ ?_
 refine zP 14 46 b6A32 HT_ ?_
 refine done_ (done_of HT_.out zG125) ?_
 obtain ⟨hcz22_0, hcz22_1, hcz22_2, hcz22_3, hfz22_0, hfz22_1, hfz22_2, hfz22_3⟩ := zB4 BK311.out
 obtain ⟨hcz23_0, hcz23_1, hcz23_2, hcz23_3, hcz23_4, hcz23_5, hcz23_6, hfz23_0, hfz23_1, hfz23_2, hfz23_3, hfz23_4, hfz23_5, hfz23_6⟩ := zB7 BK0.out
 try go_wp2
 first | go_end0 | ((try simp only [Exit.inBlock, Exit.then]); refine bodyPost_ret (results_none rfl _ _ _) rfl ?_)
 exact ⟨_, _, zH92, by (with_reducible repeat (first | apply zf | apply zg | apply zh)); exact zo (zd (p := ⟨gi0, 6, none⟩) (zd (p := ⟨gi0, 5, none⟩) (zd (p := ⟨gi0, 4, none⟩) (zd (p := ⟨gi0, 3, none⟩) (zd (p := ⟨gi0, 2, none⟩) (zq HO304.out BK0.out zG126) (fun _ hk => hk.2) (.slice Ao12 t302.length co12)) (fun _ hk => hk.2) (.slice Ao14 t305.length co14)) (fun _ hk => hk.2) (.int .i64 t308)) (fun _ hk => hk.2) (.int .i64 t309)) (fun _ hk => hk.2) (.bool true)) (fun _ hk => ⟨hk.1.1, hk.1.2.2.2⟩), by (with_reducible repeat (first | apply zf | apply zg | apply zh)); exact zo (zd (p := ⟨gi0, 6, none⟩) (zd (p := ⟨gi0, 5, none⟩) (zd (p := ⟨gi0, 4, none⟩) (zd (p := ⟨gi0, 3, none⟩) (zd (p := ⟨gi0, 2, none⟩) (zq HO307.out BK0.out zG126) (fun _ hk => hk.2) (.slice Ao12 t302.length co12)) (fun _ hk => hk.2) (.slice Ao14 t305.length co14)) (fun _ hk => hk.2) (.int .i64 t308)) (fun _ hk => hk.2) (.int .i64 t309)) (fun _ hk => hk.2) (.bool true)) (fun _ hk => ⟨hk.1.1, hk.1.2.2.2⟩), (by (with_reducible repeat (first | refine zc ?_ _ | refine ze ?_ | refine zb ?_ _)); refine zu (cs := #[.slice A0_0 l0_0.length c0_0, .int .i64 a0_1, .slice Ao12 t302.length co12, .slice Ao14 t305.length co14, .int .i64 t308, .int .i64 t309, .bool true]) ?_ 6 _ rfl; (with_reducible repeat (first | refine zc ?_ _ | refine ze ?_ | refine zb ?_ _)); refine zu (cs := #[.slice A0_0 l0_0.length c0_0, .int .i64 a0_1, .slice Ao12 t302.length co12, .slice Ao14 t305.length co14, .int .i64 t308, .int .i64 a0_5, .bool true]) ?_ 5 _ rfl; (with_reducible repeat (first | refine zc ?_ _ | refine ze ?_ | refine zb ?_ _)); refine zu (cs := #[.slice A0_0 l0_0.length c0_0, .int .i64 a0_1, .slice Ao12 t302.length co12, .slice Ao14 t305.length co14, .int .i64 a0_4, .int .i64 a0_5, .bool true]) ?_ 4 _ rfl; (with_reducible repeat (first | refine zc ?_ _ | refine ze ?_ | refine zb ?_ _)); refine zu (cs := #[.slice A0_0 l0_0.length c0_0, .int .i64 a0_1, .slice Ao12 t302.length co12, u9001_, .int .i64 a0_4, .int .i64 a0_5, .bool true]) ?_ 3 _ rfl; (with_reducible repeat (first | refine zc ?_ _ | refine ze ?_ | refine zb ?_ _)); refine zu (cs := #[.slice A0_0 l0_0.length c0_0, .int .i64 a0_1, u9000_, u9001_, .int .i64 a0_4, .int .i64 a0_5, .bool true]) ?_ 2 _ rfl; (with_reducible repeat (first | refine zc ?_ _ | refine ze ?_ | refine zb ?_ _)); exact BK0.out), zH54, zH33⟩
end Go.Proofs.Ytojncbpeeboooaa.Q
