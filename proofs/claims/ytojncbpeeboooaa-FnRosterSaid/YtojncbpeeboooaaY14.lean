-- squeezed
-- made by pp.py (wip/tools) out of the translation; Lean checks it
import Derived.Test.YtojncbpeeboooaaY0
import Derived.Test.YtojncbpeeboooaaY13
namespace Go.Proofs.Ytojncbpeeboooaa.Y
open Go.RowKit Go.Proofs.YtojncbpeeboooaaW.PrintWords Go.Proofs.YtojncbpeeboooaaW.PrintLast Go.Proofs.YtojncbpeeboooaaW.PrintMore
attribute [local go_sem] max2_int min2_int max_two min_two max_three min_three max_four min_four   -- for this text's walks alone
set_option linter.unusedVariables false
set_option linter.unusedSimpArgs false

abbrev b14A0 := zM 11 0
abbrev b14A1 := zM 11 1
abbrev b14A2 := zM 11 3
abbrev b14A3 := zM 11 7
abbrev b14A4 := zM 11 23
abbrev b14A5 := zM 11 55
abbrev b14A6 := zM 11 119
abbrev b14A7 := zM 11 375
abbrev b14A8 := zM 11 383
abbrev b14A9 := zM 11 511
abbrev b14A10 := zM 11 1023
abbrev b14A11 := zM 11 2047
abbrev b14A12 := zM 13 0
abbrev b14A13 := zM 13 1
abbrev b14A14 := zM 13 3
abbrev b14A15 := zM 13 7
abbrev b14A16 := zM 13 23
abbrev b14A17 := zM 13 55
abbrev b14A18 := zM 13 119
abbrev b14A19 := zM 13 375
abbrev b14A20 := zM 13 887
abbrev b14A21 := zM 13 1911
abbrev b14A22 := zM 13 1919
abbrev b14A23 := zM 13 2047
abbrev b14A24 := zM 13 4095
abbrev b14A25 := zM 13 8191
/-! ### spec_l21Search_try: function 101 -/
mutual
def spec_l21Search_try.l0 : Nat → List Int → Int → List (S139) → List (S72) → List Int → Int → Bool → Option (List Int × Int × Bool)
 | 0, _, _, _, _, _, _, _ => none
 | k + 1, x1, x5, x1000, x1001, x1002, x1003, x1004 => if x5 < (x1001.length : Int) then ((some (([] : List Int) : List Int)).bind fun y344 => (if y344.length + x1.length < 17592186044416 then ((some (y344 ++ x1 : List Int)).bind fun y347 => (if y347.length < 17592186044416 then ((some (y347 ++ [x5] : List Int)).bind fun y350 => ((spec_l21Code.f k x1000 x1001 y350 (x1.length : Int)).bind fun t353 => (if t353 = 0 then ((spec_l21Search_try.f k x1000 x1001 x1002 x1003 x1004 y350).bind fun bt354 => (spec_l21Search_try.l0 k x1 (wrap64 (x5 + 1)) x1000 x1001 bt354.1 bt354.2.1 bt354.2.2)) else (spec_l21Search_try.l0 k x1 (wrap64 (x5 + 1)) x1000 x1001 x1002 x1003 x1004)))) else (none))) else (none))) else (some (x1002, x1003, x1004))
def spec_l21Search_try.f : Nat → List (S139) → List (S72) → List Int → Int → Bool → List Int → Option (List Int × Int × Bool)
 | 0, _, _, _, _, _, _ => none
 | k + 1, l0_0, l0_1, l0_2, a0_3, a0_4, l1 => if (l1.length : Int) = (l0_0.length : Int) then ((spec_l21Cost.f k l0_0 l0_1 l1).bind fun t343 => (if a0_4 = true then (if t343 < a0_3 then (some (l1, t343, true)) else (some (l0_2, a0_3, a0_4))) else (some (l1, t343, true)))) else (spec_l21Search_try.l0 k l1 0 l0_0 l0_1 l0_2 a0_3 a0_4)
end
theorem spec_l21Search_try.mono_l : ∀ k, (∀ y0 y1 y2 y3 y4 y5, LeO (spec_l21Search_try.f k y0 y1 y2 y3 y4 y5) (spec_l21Search_try.f (k + 1) y0 y1 y2 y3 y4 y5)) ∧ (∀ y0 y1 y2 y3 y4 y5 y6, LeO (spec_l21Search_try.l0 k y0 y1 y2 y3 y4 y5 y6) (spec_l21Search_try.l0 (k + 1) y0 y1 y2 y3 y4 y5 y6))
 | 0 => ⟨fun _ _ _ _ _ _ r h => by simp [spec_l21Search_try.f] at h, fun _ _ _ _ _ _ _ r h => by simp [spec_l21Search_try.l0] at h⟩
 | k + 1 => by
  obtain ⟨ih0, ih1⟩ := spec_l21Search_try.mono_l k
  refine ⟨?_, ?_⟩
  ·intro y0 y1 y2 y3 y4 y5
   unfold spec_l21Search_try.f
   repeat' first
   | (with_reducible exact ih0 _ _ _ _ _ _)
   | (with_reducible exact ih1 _ _ _ _ _ _ _)
   | (with_reducible exact spec_l21Code.mono _ _ _ _ _)
   | (with_reducible exact spec_l21Cost.mono _ _ _ _)
   | (with_reducible exact LeO.refl _)
   | (with_reducible exact LeO.none _)
   | (with_reducible refine LeO.ite ?_ ?_)
   | (with_reducible refine LeO.bind ?_ (fun _ => ?_))
   | exact ih0 _ _ _ _ _ _
   | exact ih1 _ _ _ _ _ _ _
   | exact spec_l21Code.mono _ _ _ _ _
   | exact spec_l21Cost.mono _ _ _ _
   | exact LeO.none _
   | refine LeO.ite ?_ ?_
   | refine LeO.bind ?_ (fun _ => ?_)
  ·intro y0 y1 y2 y3 y4 y5 y6
   unfold spec_l21Search_try.l0
   repeat' first
   | (with_reducible exact ih0 _ _ _ _ _ _)
   | (with_reducible exact ih1 _ _ _ _ _ _ _)
   | (with_reducible exact spec_l21Code.mono _ _ _ _ _)
   | (with_reducible exact spec_l21Cost.mono _ _ _ _)
   | (with_reducible exact LeO.refl _)
   | (with_reducible exact LeO.none _)
   | (with_reducible refine LeO.ite ?_ ?_)
   | (with_reducible refine LeO.bind ?_ (fun _ => ?_))
   | exact ih0 _ _ _ _ _ _
   | exact ih1 _ _ _ _ _ _ _
   | exact spec_l21Code.mono _ _ _ _ _
   | exact spec_l21Cost.mono _ _ _ _
   | exact LeO.none _
   | refine LeO.ite ?_ ?_
   | refine LeO.bind ?_ (fun _ => ?_)
theorem spec_l21Search_try.mono : ∀ a0 a1 a2 a3 a4 a5 k, LeO (spec_l21Search_try.f k a0 a1 a2 a3 a4 a5) (spec_l21Search_try.f (k + 1) a0 a1 a2 a3 a4 a5) := by
 intro a0 a1 a2 a3 a4 a5 k
 obtain ⟨ih0, ih1⟩ := spec_l21Search_try.mono_l k
 exact ih0 a0 a1 a2 a3 a4 a5
def spec_l21Search_try.T1 : Bool × List (List Nat × List Nat) := (true, [([], []), ([0], [0]), ([1], [1]), ([2], [2]), ([], []), ([4], [4]), ([5], [5]), ([6], [6]), ([], []), ([3, 7, 8], [3, 7, 8]), ([9, 9, 0, 1, 2, 3, 4, 5, 6, 7, 8, 9], [9])])
def spec_l21Search_try.B1 : List Nat := [0, 1, 3, 7, 0, 16, 48, 112, 0, 511, 1023]
theorem spec_l21Search_try.tab1 : rtab .any (opsOf Try.f101 1) = spec_l21Search_try.T1 := by kernel_rfl
theorem spec_l21Search_try.bits1 : waitsOk spec_l21Search_try.T1.2 spec_l21Search_try.B1 = true := by kernel_rfl
def spec_l21Search_try.T10 : Bool × List (List Nat × List Nat) := (true, [([], []), ([0], [0]), ([1], [1]), ([2], [2]), ([], []), ([4], [4]), ([5], [5]), ([6], [6]), ([], []), ([], []), ([9], [9]), ([3, 7, 8, 10], [3, 7, 8, 10]), ([11], [11])])
def spec_l21Search_try.B10 : List Nat := [0, 1, 3, 7, 0, 16, 48, 112, 0, 0, 512, 2047, 4095]
theorem spec_l21Search_try.tab10 : rtab .any (opsOf Try.f101 10) = spec_l21Search_try.T10 := by kernel_rfl
theorem spec_l21Search_try.bits10 : waitsOk spec_l21Search_try.T10.2 spec_l21Search_try.B10 = true := by kernel_rfl
set_option maxHeartbeats 64000000 in
set_option maxRecDepth 100000 in
theorem spec_l21Search_try.calls (k : Nat) : ∀ (gi0 : Nat) (A0_0 : Option Addr) (c0_0 : Nat) (l0_0 : List (S139)) (A0_1 : Option Addr) (c0_1 : Nat) (l0_1 : List (S72)) (P0_2_ : Nat → Prop) (u9000_ : Value) (l0_2 : List Int) (a0_3 : Int) (a0_4 : Bool) (P1_ : Nat → Prop) (u9001_ : Value) (l1 : List Int) (r1 : List Int) (r2 : Int) (r3 : Bool) (w0 w : World) (hB : Below w0.heap.size w0 w) (hbk0 : w.heap[gi0]? = some (.cells #[.slice A0_0 l0_0.length c0_0, .slice A0_1 l0_1.length c0_1, u9000_, .int .i64 a0_3, .bool a0_4] 148 (0, 0))) (hge0 : w0.heap.size ≤ gi0) (hr0_0 : ∀ W_, Kept w W_ (fun k_ => (P0_2_ k_ ∨ P1_ k_) ∨ k_ = gi0) → Kd.C k139 W_ A0_0 l0_0.length l0_0) (hc0_0 : l0_0.length ≤ c0_0) (hr0_1 : ∀ W_, Kept w W_ (fun k_ => (P0_2_ k_ ∨ P1_ k_) ∨ k_ = gi0) → Kd.C k72 W_ A0_1 l0_1.length l0_1) (hc0_1 : l0_1.length ≤ c0_1) (ho0_2 : Kd.R (Kd.int .i64) 3 w w0.heap.size P0_2_ u9000_ l0_2) (hp0_2_1 : ∀ k_, P0_2_ k_ → ¬ P1_ k_) (ho1 : Kd.R (Kd.int .i64) 3 w w0.heap.size P1_ u9001_ l1) (hp1_0_2 : ∀ k_, P1_ k_ → ¬ P0_2_ k_) (h : spec_l21Search_try.f k l0_0 l0_1 l0_2 a0_3 a0_4 l1 = some (r1, r2, r3)),
  Calls Try.prog 101 #[.pointer (some ⟨gi0, 0, none⟩), u9001_] w fun e w' => ∃ v0_ : Value, e = .returned (.tuple #[]) ∧ Kd.R (Kd.int .i64) 3 w' w0.heap.size (fun k_ => ((P0_2_ k_ ∨ P1_ k_) ∨ w.heap.size ≤ k_)) v0_ r1 ∧ w'.heap[gi0]? = some (.cells #[.slice A0_0 l0_0.length c0_0, .slice A0_1 l0_1.length c0_1, v0_, .int .i64 r2, .bool r3] 148 (0, 0)) ∧ Below w0.heap.size w0 w' ∧ Kept w w' (fun k_ => (P0_2_ k_ ∨ P1_ k_) ∨ k_ = gi0) := by
 induction k using Nat.strongRecOn with
 | _ k ih =>
 intro gi0 A0_0 c0_0 l0_0 A0_1 c0_1 l0_1 P0_2_ u9000_ l0_2 a0_3 a0_4 P1_ u9001_ l1 r1 r2 r3 w0 w hB hbk0 hge0 hr0_0 hc0_0 hr0_1 hc0_1 ho0_2 hp0_2_1 ho1 hp1_0_2 h
 cases k with
 | zero => exact absurd h (by simp [spec_l21Search_try.f])
 | succ k =>
 simp only [spec_l21Search_try.f] at h
 obtain ⟨HR0_0, HC0_0, HR0_1, HC0_1, HO0_2, HO1, BK0, GE0, HK, HW0, HB⟩ := zD11 hr0_0 hc0_0 hr0_1 hc0_1 (show Kd.R (Kd.int .i64) 3 w w0.heap.size (fun k_ => ((P0_2_ k_ ∨ P1_ k_) ∨ w.heap.size ≤ k_) ∧ some k_ ≠ (u9001_ : Value).ownBlock) u9000_ l0_2 from zt ho0_2 (fun k_ hk => ⟨(.inl (.inl hk)), fun e_ => hp0_2_1 k_ hk (ho1.1 k_ e_.symm)⟩)) (show Kd.R (Kd.int .i64) 3 w w0.heap.size (fun k_ => ((P0_2_ k_ ∨ P1_ k_) ∨ w.heap.size ≤ k_) ∧ some k_ ≠ (u9000_ : Value).ownBlock) u9001_ l1 from zt ho1 (fun k_ hk => ⟨(.inl (.inr hk)), fun e_ => hp1_0_2 k_ hk (ho0_2.1 k_ e_.symm)⟩)) hbk0 hge0 (Kept.refl w (fun k_ => (P0_2_ k_ ∨ P1_ k_) ∨ k_ = gi0)) hB.size hB
 clear hr0_0 hc0_0 hr0_1 hc0_1 hbk0 hge0 hB
 have H : (if (l1.length : Int) = (l0_0.length : Int) then ((spec_l21Cost.f k l0_0 l0_1 l1).bind fun t343 => (if a0_4 = true then (if t343 < a0_3 then (some (l1, t343, true)) else (some (l0_2, a0_3, a0_4))) else (some (l1, t343, true)))) else (spec_l21Search_try.l0 k l1 0 l0_0 l0_1 l0_2 a0_3 a0_4)) = some (r1, r2, r3) := h
 clear h
 by_cases c3 : (l1.length : Int) = (l0_0.length : Int)
 ·rw [if_pos c3] at H
  have c3b0 : ((l1.length : Int) == (l0_0.length : Int)) = true := beq_iff_eq.mpr c3
  have c3b1 : ((l1.length : Int) != (l0_0.length : Int)) = false := bne_eq_false_iff_eq.mpr c3
  have c3b2 : (l1.length == l0_0.length) = true := by first | simpa using c3 | (simp at c3 ⊢; omega)
  clear c3
  replace H := Option.bind_eq_some_iff.mp H
  obtain ⟨t343, A40, H⟩ := H
  replace H : (if a0_4 = true then (if t343 < a0_3 then (some (l1, t343, true)) else (some (l0_2, a0_3, a0_4))) else (some (l1, t343, true))) = some (r1, r2, r3) := H
  have A4 := za A40
  clear A40
  by_cases c5 : a0_4 = true
  rotate_left
  ·replace c5 := Bool.eq_false_iff.mpr c5
   subst c5
   have H1 : (some (l1, t343, true)) = some (r1, r2, r3) := by rw [if_neg (show ¬ (false = true) by decide)] at H; exact H
   clear H
   have H := H1
   clear H1
   simp only [Option.some.injEq, Prod.mk.injEq] at H
   obtain ⟨rfl, rfl, rfl⟩ := H
   obtain ⟨Ao15, co15, eo15⟩ := zal HO1.out
   subst eo15
   obtain ⟨hcz16_0, hcz16_1, hcz16_2, hcz16_3, hcz16_4, hfz16_0, hfz16_1, hfz16_2, hfz16_3, hfz16_4⟩ := zB5 BK0.out
   go_enter Try.func101, Try.ntmps101
   try go_wp2
   obtain ⟨n0_, n1_, n2_, n3_, n4_⟩ := zD5 (zn HO0_2.out) (zn HO1.out) (zg BK0.out) (Kept.drew HK.out) (zh HB.out)
   clear HO0_2 HO1 BK0 HK HB
   have HO0_2 := n0_
   have HO1 := n1_
   have BK0 := n2_
   have HK := n3_
   have HB := n4_
   clear n0_ n1_ n2_ n3_ n4_
   refine start_ (n := 11) (S := fun w' => w'.cell? ⟨gi0, 0, none⟩ = some (.slice A0_0 l0_0.length c0_0) ∧ w'.cell? ⟨gi0, 1, none⟩ = some (.slice A0_1 l0_1.length c0_1) ∧ w'.cell? ⟨gi0, 2, none⟩ = some (u9000_) ∧ w'.cell? ⟨gi0, 3, none⟩ = some (.int .i64 a0_3) ∧ w'.cell? ⟨gi0, 4, none⟩ = some (.bool false)) (ds := []) b14A0 zG130 rfl rfl ⟨(zk BK0.out 0).trans rfl, (zk BK0.out 1).trans rfl, (zk BK0.out 2).trans rfl, (zk BK0.out 3).trans rfl, (zk BK0.out 4).trans rfl⟩ (fun hHeld => ?_); refine with_tabW spec_l21Search_try.tab1 spec_l21Search_try.bits1 (fun HT_ HW_ => ?_)
   generalize w.drew = w17 at HO0_2 HO1 BK0 HK HB hHeld ⊢
   refine zP 0 15 b14A1 HT_ ?_
   refine zP 1 16 b14A2 HT_ ?_
   refine zP 2 17 b14A3 HT_ ?_
   refine zP 4 19 b14A4 HT_ ?_
   refine zP 5 20 b14A5 HT_ ?_
   refine zP 6 21 b14A6 HT_ ?_
   refine zP 8 23 b14A7 HT_ ?_
   refine zQ 3 18 b14A8 HT_ HW_ hHeld ?_
   refine zQ 7 22 b14A9 HT_ HW_ hHeld ?_
   refine one_ (i := 9) (N := some 24) b14A10 rfl rfl (one_of HT_.out zG130) zG131 (fun K hK => ?_)
   refine goes_ Try.func139 zG130 rfl #[.slice A0_0 l0_0.length c0_0, .slice A0_1 l0_1.length c0_1, .slice Ao15 l1.length co15] (by rfl) rfl rfl zG93 ?_
   with_reducible refine (spec_l21Cost.calls k _ _ l0_0 _ _ l0_1 _ _ l1 t343 _ ?side1 ?side2 ?side3 ?side4 ?side5 ?side6 A4.out).mono ?_
   (case side1 => exact zaw HR0_0.out zG91)
   (case side2 => exact HC0_0.out)
   (case side3 => exact zaw HR0_1.out zG91)
   (case side4 => exact HC0_1.out)
   (case side5 => exact zH71)
   (case side6 => exact (zad HO1.out).2.1)
   rintro e w' ⟨rfl, ⟨nd, rfl⟩⟩
   refine ⟨_, rfl, ?_⟩
   refine hK.out _ _ ⟨(zk BK0.out 0).trans rfl, (zk BK0.out 1).trans rfl, (zk BK0.out 2).trans rfl, (zk BK0.out 3).trans rfl, (zk BK0.out 4).trans rfl⟩ (fun hHeld => ?_)
   clear hK K
   refine norm_ (a' := ?_) ?_ ?_
   rotate_left
   ·show Act.put _ (some 24) _ = _
    simp only [Act.put, List.setIfInBounds_toArray, List.set_cons_zero, List.set_cons_succ, i64_w, i32_w]
    rfl
   refine zP 10 4 b14A11 HT_ ?_
   refine done_ (done_of HT_.out zG130) ?_
   obtain ⟨hcz18_0, hcz18_1, hcz18_2, hcz18_3, hcz18_4, hfz18_0, hfz18_1, hfz18_2, hfz18_3, hfz18_4⟩ := zB5 BK0.out
   try go_wp2
   first | go_end0 | ((try simp only [Exit.inBlock, Exit.then]); refine bodyPost_ret (results_none rfl _ _ _) rfl ?_)
   exact ⟨_, zH113, by (with_reducible repeat (first | apply zl | apply zm | apply zn)); exact zt (zs (p := ⟨gi0, 4, none⟩) (zs (p := ⟨gi0, 3, none⟩) (zs (p := ⟨gi0, 2, none⟩) (zv HO1.out BK0.out zG131) (fun _ hk => hk.2) (.slice Ao15 l1.length co15)) (fun _ hk => hk.2) (.int .i64 t343)) (fun _ hk => hk.2) (.bool true)) (fun _ hk => hk.1.1), (by (with_reducible repeat (first | refine zd ?_ _ | refine zg ?_ | refine ze ?_ _)); refine zu (cs := #[.slice A0_0 l0_0.length c0_0, .slice A0_1 l0_1.length c0_1, .slice Ao15 l1.length co15, .int .i64 t343, .bool false]) ?_ 4 _ rfl; (with_reducible repeat (first | refine zd ?_ _ | refine zg ?_ | refine ze ?_ _)); refine zu (cs := #[.slice A0_0 l0_0.length c0_0, .slice A0_1 l0_1.length c0_1, .slice Ao15 l1.length co15, .int .i64 a0_3, .bool false]) ?_ 3 _ rfl; (with_reducible repeat (first | refine zd ?_ _ | refine zg ?_ | refine ze ?_ _)); refine zu (cs := #[.slice A0_0 l0_0.length c0_0, .slice A0_1 l0_1.length c0_1, u9000_, .int .i64 a0_3, .bool false]) ?_ 2 _ rfl; (with_reducible repeat (first | refine zd ?_ _ | refine zg ?_ | refine ze ?_ _)); exact BK0.out), zH88, zH46⟩
  subst c5
  have H1 : (if t343 < a0_3 then (some (l1, t343, true)) else (some (l0_2, a0_3, true))) = some (r1, r2, r3) := by rw [if_pos rfl] at H; exact H
  clear H
  have H := H1
  clear H1
  by_cases c6 : t343 < a0_3
  rotate_left
  ·rw [if_neg c6] at H
   have c6b0 := decide_eq_false c6
   clear c6
   simp only [Option.some.injEq, Prod.mk.injEq] at H
   obtain ⟨rfl, rfl, rfl⟩ := H
   obtain ⟨Ao11, co11, eo11⟩ := zal HO1.out
   subst eo11
   obtain ⟨hcz12_0, hcz12_1, hcz12_2, hcz12_3, hcz12_4, hfz12_0, hfz12_1, hfz12_2, hfz12_3, hfz12_4⟩ := zB5 BK0.out
   go_enter Try.func101, Try.ntmps101
   try go_wp2
   obtain ⟨n0_, n1_, n2_, n3_, n4_⟩ := zD5 (zn HO0_2.out) (zn HO1.out) (zg BK0.out) (Kept.drew HK.out) (zh HB.out)
   clear HO0_2 HO1 BK0 HK HB
   have HO0_2 := n0_
   have HO1 := n1_
   have BK0 := n2_
   have HK := n3_
   have HB := n4_
   clear n0_ n1_ n2_ n3_ n4_
   refine start_ (n := 11) (S := fun w' => w'.cell? ⟨gi0, 0, none⟩ = some (.slice A0_0 l0_0.length c0_0) ∧ w'.cell? ⟨gi0, 1, none⟩ = some (.slice A0_1 l0_1.length c0_1) ∧ w'.cell? ⟨gi0, 2, none⟩ = some (u9000_) ∧ w'.cell? ⟨gi0, 3, none⟩ = some (.int .i64 a0_3) ∧ w'.cell? ⟨gi0, 4, none⟩ = some (.bool true)) (ds := []) b14A0 zG130 rfl rfl ⟨(zk BK0.out 0).trans rfl, (zk BK0.out 1).trans rfl, (zk BK0.out 2).trans rfl, (zk BK0.out 3).trans rfl, (zk BK0.out 4).trans rfl⟩ (fun hHeld => ?_); refine with_tabW spec_l21Search_try.tab1 spec_l21Search_try.bits1 (fun HT_ HW_ => ?_)
   generalize w.drew = w13 at HO0_2 HO1 BK0 HK HB hHeld ⊢
   refine zP 0 15 b14A1 HT_ ?_
   refine zP 1 16 b14A2 HT_ ?_
   refine zP 2 17 b14A3 HT_ ?_
   refine zP 4 19 b14A4 HT_ ?_
   refine zP 5 20 b14A5 HT_ ?_
   refine zP 6 21 b14A6 HT_ ?_
   refine zP 8 23 b14A7 HT_ ?_
   refine zQ 3 18 b14A8 HT_ HW_ hHeld ?_
   refine zQ 7 22 b14A9 HT_ HW_ hHeld ?_
   refine one_ (i := 9) (N := some 24) b14A10 rfl rfl (one_of HT_.out zG130) zG131 (fun K hK => ?_)
   refine goes_ Try.func139 zG130 rfl #[.slice A0_0 l0_0.length c0_0, .slice A0_1 l0_1.length c0_1, .slice Ao11 l1.length co11] (by rfl) rfl rfl zG93 ?_
   with_reducible refine (spec_l21Cost.calls k _ _ l0_0 _ _ l0_1 _ _ l1 t343 _ ?side1 ?side2 ?side3 ?side4 ?side5 ?side6 A4.out).mono ?_
   (case side1 => exact zaw HR0_0.out zG91)
   (case side2 => exact HC0_0.out)
   (case side3 => exact zaw HR0_1.out zG91)
   (case side4 => exact HC0_1.out)
   (case side5 => exact zH71)
   (case side6 => exact (zad HO1.out).2.1)
   rintro e w' ⟨rfl, ⟨nd, rfl⟩⟩
   refine ⟨_, rfl, ?_⟩
   refine hK.out _ _ ⟨(zk BK0.out 0).trans rfl, (zk BK0.out 1).trans rfl, (zk BK0.out 2).trans rfl, (zk BK0.out 3).trans rfl, (zk BK0.out 4).trans rfl⟩ (fun hHeld => ?_)
   clear hK K
   refine norm_ (a' := ?_) ?_ ?_
   rotate_left
   ·show Act.put _ (some 24) _ = _
    simp only [Act.put, List.setIfInBounds_toArray, List.set_cons_zero, List.set_cons_succ, i64_w, i32_w]
    rfl
   refine zP 10 4 b14A11 HT_ ?_
   refine done_ (done_of HT_.out zG130) ?_
   obtain ⟨hcz14_0, hcz14_1, hcz14_2, hcz14_3, hcz14_4, hfz14_0, hfz14_1, hfz14_2, hfz14_3, hfz14_4⟩ := zB5 BK0.out
   try go_wp2
   first | go_end0 | ((try simp only [Exit.inBlock, Exit.then]); refine bodyPost_ret (results_none rfl _ _ _) rfl ?_)
   exact ⟨_, zH113, by (with_reducible repeat (first | apply zl | apply zm | apply zn)); exact zt HO0_2.out (fun _ hk => hk.1), zK240, zH88, zH46⟩
  rw [if_pos c6] at H
  have c6b0 := decide_eq_true c6
  clear c6
  simp only [Option.some.injEq, Prod.mk.injEq] at H
  obtain ⟨rfl, rfl, rfl⟩ := H
  obtain ⟨Ao7, co7, eo7⟩ := zal HO1.out
  subst eo7
  obtain ⟨hcz8_0, hcz8_1, hcz8_2, hcz8_3, hcz8_4, hfz8_0, hfz8_1, hfz8_2, hfz8_3, hfz8_4⟩ := zB5 BK0.out
  go_enter Try.func101, Try.ntmps101
  try go_wp2
  obtain ⟨n0_, n1_, n2_, n3_, n4_⟩ := zD5 (zn HO0_2.out) (zn HO1.out) (zg BK0.out) (Kept.drew HK.out) (zh HB.out)
  clear HO0_2 HO1 BK0 HK HB
  have HO0_2 := n0_
  have HO1 := n1_
  have BK0 := n2_
  have HK := n3_
  have HB := n4_
  clear n0_ n1_ n2_ n3_ n4_
  refine start_ (n := 11) (S := fun w' => w'.cell? ⟨gi0, 0, none⟩ = some (.slice A0_0 l0_0.length c0_0) ∧ w'.cell? ⟨gi0, 1, none⟩ = some (.slice A0_1 l0_1.length c0_1) ∧ w'.cell? ⟨gi0, 2, none⟩ = some (u9000_) ∧ w'.cell? ⟨gi0, 3, none⟩ = some (.int .i64 a0_3) ∧ w'.cell? ⟨gi0, 4, none⟩ = some (.bool true)) (ds := []) b14A0 zG130 rfl rfl ⟨(zk BK0.out 0).trans rfl, (zk BK0.out 1).trans rfl, (zk BK0.out 2).trans rfl, (zk BK0.out 3).trans rfl, (zk BK0.out 4).trans rfl⟩ (fun hHeld => ?_); refine with_tabW spec_l21Search_try.tab1 spec_l21Search_try.bits1 (fun HT_ HW_ => ?_)
  generalize w.drew = w9 at HO0_2 HO1 BK0 HK HB hHeld ⊢
  refine zP 0 15 b14A1 HT_ ?_
  refine zP 1 16 b14A2 HT_ ?_
  refine zP 2 17 b14A3 HT_ ?_
  refine zP 4 19 b14A4 HT_ ?_
  refine zP 5 20 b14A5 HT_ ?_
  refine zP 6 21 b14A6 HT_ ?_
  refine zP 8 23 b14A7 HT_ ?_
  refine zQ 3 18 b14A8 HT_ HW_ hHeld ?_
  refine zQ 7 22 b14A9 HT_ HW_ hHeld ?_
  refine one_ (i := 9) (N := some 24) b14A10 rfl rfl (one_of HT_.out zG130) zG131 (fun K hK => ?_)
  refine goes_ Try.func139 zG130 rfl #[.slice A0_0 l0_0.length c0_0, .slice A0_1 l0_1.length c0_1, .slice Ao7 l1.length co7] (by rfl) rfl rfl zG93 ?_
  with_reducible refine (spec_l21Cost.calls k _ _ l0_0 _ _ l0_1 _ _ l1 t343 _ ?side1 ?side2 ?side3 ?side4 ?side5 ?side6 A4.out).mono ?_
  (case side1 => exact zaw HR0_0.out zG91)
  (case side2 => exact HC0_0.out)
  (case side3 => exact zaw HR0_1.out zG91)
  (case side4 => exact HC0_1.out)
  (case side5 => exact zH71)
  (case side6 => exact (zad HO1.out).2.1)
  rintro e w' ⟨rfl, ⟨nd, rfl⟩⟩
  refine ⟨_, rfl, ?_⟩
  refine hK.out _ _ ⟨(zk BK0.out 0).trans rfl, (zk BK0.out 1).trans rfl, (zk BK0.out 2).trans rfl, (zk BK0.out 3).trans rfl, (zk BK0.out 4).trans rfl⟩ (fun hHeld => ?_)
  clear hK K
  refine norm_ (a' := ?_) ?_ ?_
  rotate_left
  ·show Act.put _ (some 24) _ = _
   simp only [Act.put, List.setIfInBounds_toArray, List.set_cons_zero, List.set_cons_succ, i64_w, i32_w]
   rfl
  refine zP 10 4 b14A11 HT_ ?_
  refine done_ (done_of HT_.out zG130) ?_
  obtain ⟨hcz10_0, hcz10_1, hcz10_2, hcz10_3, hcz10_4, hfz10_0, hfz10_1, hfz10_2, hfz10_3, hfz10_4⟩ := zB5 BK0.out
  try go_wp2
  first | go_end0 | ((try simp only [Exit.inBlock, Exit.then]); refine bodyPost_ret (results_none rfl _ _ _) rfl ?_)
  exact ⟨_, zH113, by (with_reducible repeat (first | apply zl | apply zm | apply zn)); exact zt (zs (p := ⟨gi0, 4, none⟩) (zs (p := ⟨gi0, 3, none⟩) (zs (p := ⟨gi0, 2, none⟩) (zv HO1.out BK0.out zG131) (fun _ hk => hk.2) (.slice Ao7 l1.length co7)) (fun _ hk => hk.2) (.int .i64 t343)) (fun _ hk => hk.2) (.bool true)) (fun _ hk => hk.1.1), (by (with_reducible repeat (first | refine zd ?_ _ | refine zg ?_ | refine ze ?_ _)); refine zu (cs := #[.slice A0_0 l0_0.length c0_0, .slice A0_1 l0_1.length c0_1, .slice Ao7 l1.length co7, .int .i64 t343, .bool true]) ?_ 4 _ rfl; (with_reducible repeat (first | refine zd ?_ _ | refine zg ?_ | refine ze ?_ _)); refine zu (cs := #[.slice A0_0 l0_0.length c0_0, .slice A0_1 l0_1.length c0_1, .slice Ao7 l1.length co7, .int .i64 a0_3, .bool true]) ?_ 3 _ rfl; (with_reducible repeat (first | refine zd ?_ _ | refine zg ?_ | refine ze ?_ _)); refine zu (cs := #[.slice A0_0 l0_0.length c0_0, .slice A0_1 l0_1.length c0_1, u9000_, .int .i64 a0_3, .bool true]) ?_ 2 _ rfl; (with_reducible repeat (first | refine zd ?_ _ | refine zg ?_ | refine ze ?_ _)); exact BK0.out), zH88, zH46⟩
 rw [if_neg c3] at H
 have c3b0 : ((l1.length : Int) == (l0_0.length : Int)) = false := beq_eq_false_iff_ne.mpr c3
 have c3b1 : ((l1.length : Int) != (l0_0.length : Int)) = true := bne_iff_ne.mpr c3
 have c3b2 : (l1.length == l0_0.length) = false := by first | simpa using c3 | (simp at c3 ⊢; omega)
 have H' := za H
 clear H
 obtain ⟨Ao19, co19, eo19⟩ := zal HO1.out
 subst eo19
 obtain ⟨hcz20_0, hcz20_1, hcz20_2, hcz20_3, hcz20_4, hfz20_0, hfz20_1, hfz20_2, hfz20_3, hfz20_4⟩ := zB5 BK0.out
 go_enter Try.func101, Try.ntmps101
 go_wp2
 go_loopg [5] k (fun kq v5 w' => ∃ (x5_1 : Int) (x1002_1 : List Int) (x1003_1 : Int) (x1004_1 : Bool) (u1002 : Value), v5 = .int .i64 x5_1 ∧ Aside0 (spec_l21Search_try.l0 kq l1 x5_1 l0_0 l0_1 x1002_1 x1003_1 x1004_1 = some (r1, r2, r3)) ∧ Aside0 (kq ≤ k) ∧ Aside0 (Kd.R (Kd.int .i64) 3 w' w0.heap.size (fun k_ => ((P0_2_ k_ ∨ P1_ k_) ∨ w.heap.size ≤ k_) ∧ some k_ ≠ (u1002 : Value).ownBlock) (.slice Ao19 l1.length co19) l1) ∧ Aside0 (Kd.R (Kd.int .i64) 3 w' w0.heap.size (fun k_ => ((P0_2_ k_ ∨ P1_ k_) ∨ w.heap.size ≤ k_) ∧ some k_ ≠ ((.slice Ao19 l1.length co19) : Value).ownBlock) u1002 x1002_1) ∧ Aside0 (w'.heap[gi0]? = some (.cells #[(.slice A0_0 l0_0.length c0_0), (.slice A0_1 l0_1.length c0_1), u1002, .int .i64 x1003_1, .bool x1004_1] 148 (0, 0))) ∧ Aside0 (Kept w w' (fun k_ => (P0_2_ k_ ∨ P1_ k_) ∨ k_ = gi0)) ∧ Aside0 (Below w0.heap.size w0 w'))
 case atStart => exact ⟨(0), (l0_2), (a0_3), (a0_4), (u9000_), zG129, H', ⟨Nat.le_refl _⟩, ⟨by (with_reducible repeat (first | apply zl | apply zm | apply zn)); exact HO1.out⟩, ⟨by (with_reducible repeat (first | apply zl | apply zm | apply zn)); exact HO0_2.out⟩, ⟨zH107⟩, ⟨zH46⟩, ⟨zH88⟩⟩
 case round =>
  clear H'
  try clear c3
  try clear c3b0
  try clear c3b1
  try clear c3b2
  try clear c5
  try clear c6
  try clear c6b0
  try clear hcz10_0
  try clear hcz10_1
  try clear hcz10_2
  try clear hcz10_3
  try clear hcz10_4
  try clear hcz12_0
  try clear hcz12_1
  try clear hcz12_2
  try clear hcz12_3
  try clear hcz12_4
  try clear hcz14_0
  try clear hcz14_1
  try clear hcz14_2
  try clear hcz14_3
  try clear hcz14_4
  try clear hcz16_0
  try clear hcz16_1
  try clear hcz16_2
  try clear hcz16_3
  try clear hcz16_4
  try clear hcz18_0
  try clear hcz18_1
  try clear hcz18_2
  try clear hcz18_3
  try clear hcz18_4
  try clear hcz20_0
  try clear hcz20_1
  try clear hcz20_2
  try clear hcz20_3
  try clear hcz20_4
  try clear hcz8_0
  try clear hcz8_1
  try clear hcz8_2
  try clear hcz8_3
  try clear hcz8_4
  try clear hfz10_0
  try clear hfz10_1
  try clear hfz10_2
  try clear hfz10_3
  try clear hfz10_4
  try clear hfz12_0
  try clear hfz12_1
  try clear hfz12_2
  try clear hfz12_3
  try clear hfz12_4
  try clear hfz14_0
  try clear hfz14_1
  try clear hfz14_2
  try clear hfz14_3
  try clear hfz14_4
  try clear hfz16_0
  try clear hfz16_1
  try clear hfz16_2
  try clear hfz16_3
  try clear hfz16_4
  try clear hfz18_0
  try clear hfz18_1
  try clear hfz18_2
  try clear hfz18_3
  try clear hfz18_4
  try clear hfz20_0
  try clear hfz20_1
  try clear hfz20_2
  try clear hfz20_3
  try clear hfz20_4
  try clear hfz8_0
  try clear hfz8_1
  try clear hfz8_2
  try clear hfz8_3
  try clear hfz8_4
  obtain ⟨x5_1, x1002_1, x1003_1, x1004_1, u1002, rfl, HA, HK1, HO_1, HO_1002, BK0, HK, HB⟩ := hrel
  cases gk with
  | zero => exact absurd HA.out (by simp [spec_l21Search_try.l0])
  | succ k1 =>
   have H := HA.out
   clear HA
   simp only [spec_l21Search_try.l0] at H
   by_cases c21 : x5_1 < (l0_1.length : Int)
   rotate_left
   ·rw [if_neg c21] at H
    have c21b0 := decide_eq_false c21
    clear c21
    simp only [Option.some.injEq, Prod.mk.injEq] at H
    obtain ⟨rfl, rfl, rfl⟩ := H
    obtain ⟨hcz45_0, hcz45_1, hcz45_2, hcz45_3, hcz45_4, hfz45_0, hfz45_1, hfz45_2, hfz45_3, hfz45_4⟩ := zB5 BK0.out
    go_wp2
    first | go_end0 | ((try simp only [Exit.inBlock, Exit.then]); refine bodyPost_ret (results_none rfl _ _ _) rfl ?_)
    exact ⟨_, zH113, by (with_reducible repeat (first | apply zl | apply zm | apply zn)); exact zt HO_1002.out (fun _ hk => hk.1), zK240, zH88, zH46⟩

   rw [if_pos c21] at H
   have c21b0 := decide_eq_true c21
   clear c21
   obtain ⟨y344, hy344⟩ : ∃ y_ : List Int, y_ = (([] : List Int)) := ⟨_, rfl⟩
   replace H : (if y344.length + l1.length < 17592186044416 then ((some (y344 ++ l1 : List Int)).bind fun y347 => (if y347.length < 17592186044416 then ((some (y347 ++ [x5_1] : List Int)).bind fun y350 => ((spec_l21Code.f k1 l0_0 l0_1 y350 (l1.length : Int)).bind fun t353 => (if t353 = 0 then ((spec_l21Search_try.f k1 l0_0 l0_1 x1002_1 x1003_1 x1004_1 y350).bind fun bt354 => (spec_l21Search_try.l0 k1 l1 (wrap64 (x5_1 + 1)) l0_0 l0_1 bt354.1 bt354.2.1 bt354.2.2)) else (spec_l21Search_try.l0 k1 l1 (wrap64 (x5_1 + 1)) l0_0 l0_1 x1002_1 x1003_1 x1004_1)))) else (none))) else (none)) = some (r1, r2, r3) := by first | (rw [hy344]; with_reducible exact H) | (have H2_ := (Option.bind_some _ _).symm.trans H; rw [hy344]; with_reducible exact H2_) | (have H2_ := (Option.bind_some _ _).symm.trans H; with_reducible exact H2_) | with_reducible exact H | (rw [hy344]; exact H) | exact H
   have Ny344 := za hy344
   clear hy344
   by_cases c22 : y344.length + l1.length < 17592186044416
   rotate_left
   ·rw [if_neg c22] at H
    exact absurd H (by simp)
   rw [if_pos c22] at H
   have LMc22 := za c22
   clear c22
   obtain ⟨y347, hy347⟩ : ∃ y_ : List Int, y_ = (y344 ++ l1) := ⟨_, rfl⟩
   replace H : (if y347.length < 17592186044416 then ((some (y347 ++ [x5_1] : List Int)).bind fun y350 => ((spec_l21Code.f k1 l0_0 l0_1 y350 (l1.length : Int)).bind fun t353 => (if t353 = 0 then ((spec_l21Search_try.f k1 l0_0 l0_1 x1002_1 x1003_1 x1004_1 y350).bind fun bt354 => (spec_l21Search_try.l0 k1 l1 (wrap64 (x5_1 + 1)) l0_0 l0_1 bt354.1 bt354.2.1 bt354.2.2)) else (spec_l21Search_try.l0 k1 l1 (wrap64 (x5_1 + 1)) l0_0 l0_1 x1002_1 x1003_1 x1004_1)))) else (none)) = some (r1, r2, r3) := by first | (rw [hy347]; with_reducible exact H) | (have H2_ := (Option.bind_some _ _).symm.trans H; rw [hy347]; with_reducible exact H2_) | (have H2_ := (Option.bind_some _ _).symm.trans H; with_reducible exact H2_) | with_reducible exact H | (rw [hy347]; exact H) | exact H
   have Ny347 := za hy347
   clear hy347
   by_cases c23 : y347.length < 17592186044416
   rotate_left
   ·rw [if_neg c23] at H
    exact absurd H (by simp)
   rw [if_pos c23] at H
   have LMc23 := za c23
   clear c23
   obtain ⟨y350, hy350⟩ : ∃ y_ : List Int, y_ = (y347 ++ [x5_1]) := ⟨_, rfl⟩
   replace H : ((spec_l21Code.f k1 l0_0 l0_1 y350 (l1.length : Int)).bind fun t353 => (if t353 = 0 then ((spec_l21Search_try.f k1 l0_0 l0_1 x1002_1 x1003_1 x1004_1 y350).bind fun bt354 => (spec_l21Search_try.l0 k1 l1 (wrap64 (x5_1 + 1)) l0_0 l0_1 bt354.1 bt354.2.1 bt354.2.2)) else (spec_l21Search_try.l0 k1 l1 (wrap64 (x5_1 + 1)) l0_0 l0_1 x1002_1 x1003_1 x1004_1))) = some (r1, r2, r3) := by first | (rw [hy350]; with_reducible exact H) | (have H2_ := (Option.bind_some _ _).symm.trans H; rw [hy350]; with_reducible exact H2_) | (have H2_ := (Option.bind_some _ _).symm.trans H; with_reducible exact H2_) | with_reducible exact H | (rw [hy350]; exact H) | exact H
   have Ny350 := za hy350
   clear hy350
   replace H := Option.bind_eq_some_iff.mp H
   obtain ⟨t353, A240, H⟩ := H
   replace H : (if t353 = 0 then ((spec_l21Search_try.f k1 l0_0 l0_1 x1002_1 x1003_1 x1004_1 y350).bind fun bt354 => (spec_l21Search_try.l0 k1 l1 (wrap64 (x5_1 + 1)) l0_0 l0_1 bt354.1 bt354.2.1 bt354.2.2)) else (spec_l21Search_try.l0 k1 l1 (wrap64 (x5_1 + 1)) l0_0 l0_1 x1002_1 x1003_1 x1004_1)) = some (r1, r2, r3) := H
   have A24 := za A240
   clear A240
   by_cases c25 : t353 = 0
   rotate_left
   ·rw [if_neg c25] at H
    have c25b0 : (t353 == 0) = false := beq_eq_false_iff_ne.mpr c25
    have c25b1 : (t353 != 0) = true := bne_iff_ne.mpr c25
    have H' := za H
    clear H
    obtain ⟨hcz37_0, hcz37_1, hcz37_2, hcz37_3, hcz37_4, hfz37_0, hfz37_1, hfz37_2, hfz37_3, hfz37_4⟩ := zB5 BK0.out
    try go_wp2_with (first | ((with_reducible refine gate_dst (N := 58) rfl ?_); refine zbh (Kd.int .i64) _ 3 ?hg (N := 58) ?hd (xs := ([] : List Int)) (inner := []) (ok := fun _ => True) (okp := fun _ => True) ?hr ?hp (fun _ hk => hk) trivial (Below.refl _ _) (Nat.le_refl _) (by simp) ?_; (case hd => rfl); (case hg => rfl); (case hr => exact zH125); (case hp => exact zH131); intro v345 w38 ho39 hb hg_ hnew_; clear hg_ hnew_; (first | rw [← Ny344.out] at ho39 | (simp only [Int.reduceToNat] at ho39; rw [← Ny344.out] at ho39)); have n_ := zA_ (za (zak zG116 (zag ho39) hb)) (zA_ (za (zak zK245 (zag ho39) hb)) (zA_ (za (zam (zao (zao (zca (M := fun k_ => ((P0_2_ k_ ∨ P1_ k_) ∨ w.heap.size ≤ k_)) ho39 zK185 (fun k_ h_ => .inr h_)) (zaf zG116)) (zaf zK245)) (zo zG96))) (zA_ (za (zp (g := gi0) (o := .cells #[.slice A0_0 l0_0.length c0_0, .slice A0_1 l0_1.length c0_1, u1002, .int .i64 x1003_1, .bool x1004_1] 148 (0, 0)) zK240 hb)) (zA_ (za (Kept.below (S := (fun k_ => (P0_2_ k_ ∨ P1_ k_) ∨ k_ = gi0)) zG91 hb)) (za (zr zG96 hb)))))); clear HO_1 HO_1002 BK0 HK HB; obtain ⟨HO_1, HO_1002, HO346, BK0, HK, HB⟩ := n_; clear hb ho39) | ((with_reducible refine gate_builtin (b := .append) (xs := #[.tmp 58, .tmp 59]) rfl ?_); at_builtin; refine Kd.R_append_rows (Kd.int .i64) (w0 := w0) w0.heap.size rfl (.tmp 58) (.tmp 59) 24 3 (.int .i64 0) 8 rfl Try.underlying24 info3 rfl zG131 (by omega) v345 y344 l1 _ _ _ (fun k_ => ((P0_2_ k_ ∨ P1_ k_) ∨ w.heap.size ≤ k_) ∧ some k_ ≠ (.slice Ao19 l1.length co19 : Value).ownBlock ∧ some k_ ≠ (u1002 : Value).ownBlock) (fun _ => False) rfl rfl ?aO ?aR (fun _ _ h => h) (fun _ h => h.elim) ?aF ?aB ?aS ?aL ?_; (case aR => exact zH67); (case aB => exact zG96); (case aF => exact zH9); (case aO => exact zH77); (case aS => exact (zo zG96)); (case aL => have := LMc22.out; omega); intro v348 w40 ho hb hg hat; rw [← Ny347.out] at ho; have n_ := zA_ (za (zbn (ok := (fun k_ => ((P0_2_ k_ ∨ P1_ k_) ∨ w.heap.size ≤ k_) ∧ some k_ ≠ (u1002 : Value).ownBlock)) zG116 hg hat)) (zA_ (za (zbn (ok := (fun k_ => ((P0_2_ k_ ∨ P1_ k_) ∨ w.heap.size ≤ k_) ∧ some k_ ≠ (.slice Ao19 l1.length co19 : Value).ownBlock)) zK245 hg hat)) (zA_ (za (zas (g := gi0) (o := .cells #[.slice A0_0 l0_0.length c0_0, .slice A0_1 l0_1.length c0_1, u1002, .int .i64 x1003_1, .bool x1004_1] 148 (0, 0)) zK240 hg (zbj HO346.out BK0.out zG131))) (zA_ (za (hb)) (zA_ (za (zby (S := (fun k_ => (P0_2_ k_ ∨ P1_ k_) ∨ k_ = gi0)) hg zG91 (fun k_ e_ => (Or.imp_left (fun z_ => (Or.inl z_)) ((HO346.out.1 k_ e_).1.1.1))))) (za (ho)))))); clear HO_1 HO_1002 BK0 HB HK HO346; obtain ⟨HO_1, HO_1002, BK0, HB, HK, HO349⟩ := n_; clear ho hb hg hat) | ((with_reducible refine gate_builtin (b := .append) (xs := #[.tmp 60, .tmp 62]) rfl ?_); at_builtin; refine zbx (Kd.int .i64) (w0 := w0) w0.heap.size rfl (.tmp 60) (.tmp 62) 24 3 (.int .i64 0) 8 rfl Try.underlying24 info3 rfl zG131 (by omega) v348 y347 x5_1 [.int .i64 x5_1] (fun k_ => ((P0_2_ k_ ∨ P1_ k_) ∨ w.heap.size ≤ k_) ∧ some k_ ≠ (.slice Ao19 l1.length co19 : Value).ownBlock ∧ some k_ ≠ (u1002 : Value).ownBlock) (fun _ => False) rfl rfl ?aP (fun _ hk => hk.elim) ?aF ?aO ?aB ?aS ?aL ?_; (case aP => exact rfl); (case aB => exact zG96); (case aF => exact zH9); (case aO => exact (by (with_reducible repeat (first | apply zl | apply zm | apply zn)); exact HO349.out)); (case aS => exact (zo zG96)); (case aL => have := LMc23.out; omega); intro v351 w41 ho hb hg hat; rw [← Ny350.out] at ho; have n_ := zA_ (za (zbn (ok := (fun k_ => ((P0_2_ k_ ∨ P1_ k_) ∨ w.heap.size ≤ k_) ∧ some k_ ≠ (u1002 : Value).ownBlock)) zG116 hg hat)) (zA_ (za (zbn (ok := (fun k_ => ((P0_2_ k_ ∨ P1_ k_) ∨ w.heap.size ≤ k_) ∧ some k_ ≠ (.slice Ao19 l1.length co19 : Value).ownBlock)) zK245 hg hat)) (zA_ (za (zas (g := gi0) (o := .cells #[.slice A0_0 l0_0.length c0_0, .slice A0_1 l0_1.length c0_1, u1002, .int .i64 x1003_1, .bool x1004_1] 148 (0, 0)) zK240 hg (zbj HO349.out BK0.out zG131))) (zA_ (za (hb)) (zA_ (za (zby (S := (fun k_ => (P0_2_ k_ ∨ P1_ k_) ∨ k_ = gi0)) hg zG91 (fun k_ e_ => (Or.imp_left (fun z_ => (Or.inl z_)) ((HO349.out.1 k_ e_).1))))) (za (ho)))))); clear HO_1 HO_1002 BK0 HB HK HO349; obtain ⟨HO_1, HO_1002, BK0, HB, HK, HO352⟩ := n_; clear ho hb hg hat))
    obtain ⟨n0_, n1_, n2_, n3_, n4_, n5_⟩ := zD6 (zn HO_1.out) (zn HO_1002.out) (zn HO352.out) (zg BK0.out) (Kept.drew HK.out) (zh HB.out)
    clear HO_1 HO_1002 HO352 BK0 HK HB
    have HO_1 := n0_
    have HO_1002 := n1_
    have HO352 := n2_
    have BK0 := n3_
    have HK := n4_
    have HB := n5_
    clear n0_ n1_ n2_ n3_ n4_ n5_
    obtain ⟨Ao43, co43, eo43⟩ := zal HO352.out
    (first | subst eo43 | (injection eo43 with f1_ f2_ f3_; have f4_ := f1_.symm; have f5_ := f3_.symm; clear f1_ f2_ f3_; subst f4_; subst f5_))
    refine start_ (n := 13) (S := fun w' => w'.cell? ⟨gi0, 0, none⟩ = some (.slice A0_0 l0_0.length c0_0) ∧ w'.cell? ⟨gi0, 1, none⟩ = some (.slice A0_1 l0_1.length c0_1) ∧ w'.cell? ⟨gi0, 2, none⟩ = some (u1002) ∧ w'.cell? ⟨gi0, 3, none⟩ = some (.int .i64 x1003_1) ∧ w'.cell? ⟨gi0, 4, none⟩ = some (.bool x1004_1)) (ds := []) b14A12 zG130 rfl rfl ⟨(zk BK0.out 0).trans rfl, (zk BK0.out 1).trans rfl, (zk BK0.out 2).trans rfl, (zk BK0.out 3).trans rfl, (zk BK0.out 4).trans rfl⟩ (fun hHeld => ?_); refine with_tabW spec_l21Search_try.tab10 spec_l21Search_try.bits10 (fun HT_ HW_ => ?_)
    generalize w41.drew = w42 at HO_1 HO_1002 HO352 BK0 HK HB hHeld ⊢
    refine zP 0 64 b14A13 HT_ ?_
    refine zP 1 65 b14A14 HT_ ?_
    refine zP 2 66 b14A15 HT_ ?_
    refine zP 4 68 b14A16 HT_ ?_
    refine zP 5 69 b14A17 HT_ ?_
    refine zP 6 70 b14A18 HT_ ?_
    refine zP 8 72 b14A19 HT_ ?_
    refine zP 9 73 b14A20 HT_ ?_
    refine zP 10 74 b14A21 HT_ ?_
    refine zQ 3 67 b14A22 HT_ HW_ hHeld ?_
    refine zQ 7 71 b14A23 HT_ HW_ hHeld ?_
    refine one_ (i := 11) (N := some 75) b14A24 rfl rfl (one_of HT_.out zG130) zG131 (fun K hK => ?_)
    refine goes_ Try.func140 zG130 rfl #[.slice A0_0 l0_0.length c0_0, .slice A0_1 l0_1.length c0_1, .slice Ao43 y350.length co43, .int .i64 (l1.length : Int)] (by rfl) rfl rfl zG93 ?_
    with_reducible refine (spec_l21Code.calls k1 _ _ l0_0 _ _ l0_1 _ _ y350 (l1.length : Int) t353 _ ?side1 ?side2 ?side3 ?side4 ?side5 ?side6 A24.out).mono ?_
    (case side1 => exact zaw HR0_0.out zG91)
    (case side2 => exact HC0_0.out)
    (case side3 => exact zaw HR0_1.out zG91)
    (case side4 => exact HC0_1.out)
    (case side5 => exact zH64)
    (case side6 => exact (zad HO352.out).2.1)
    rintro e w44 ⟨rfl, hb⟩
    refine ⟨_, rfl, ?_⟩
    obtain ⟨n0_, n1_, n2_, n3_, n4_, n5_⟩ := zD6 (zq zG116 hb) (zq zK245 hb) (zq (by (with_reducible repeat (first | apply zl | apply zm | apply zn)); exact HO352.out) hb) (zp (g := gi0) (o := .cells #[.slice A0_0 l0_0.length c0_0, .slice A0_1 l0_1.length c0_1, u1002, .int .i64 x1003_1, .bool x1004_1] 148 (0, 0)) zK240 hb) (Kept.below (S := (fun k_ => (P0_2_ k_ ∨ P1_ k_) ∨ k_ = gi0)) zG91 hb) (zr zG96 hb)
    clear HO_1 HO_1002 HO352 BK0 HK HB
    have HO_1 := n0_
    have HO_1002 := n1_
    have HO352 := n2_
    have BK0 := n3_
    have HK := n4_
    have HB := n5_
    clear n0_ n1_ n2_ n3_ n4_ n5_
    (try clear hb)
    (try clear hb2)
    (try clear hk)
    (try clear hi)
    refine hK.out _ _ ⟨(zk BK0.out 0).trans rfl, (zk BK0.out 1).trans rfl, (zk BK0.out 2).trans rfl, (zk BK0.out 3).trans rfl, (zk BK0.out 4).trans rfl⟩ (fun hHeld => ?_)
    clear hK K
    refine norm_ (a' := ?_) ?_ ?_
    rotate_left
    ·show Act.put _ (some 75) _ = _
     simp only [Act.put, List.setIfInBounds_toArray, List.set_cons_zero, List.set_cons_succ, i64_w, i32_w]
     rfl
    refine zP 12 76 b14A25 HT_ ?_
    refine done_ (done_of HT_.out zG130) ?_
    try go_wp2
    go_roundg k1
    case measure => have := HK1.out; omega
    case rel => exact ⟨(wrap64 (x5_1 + 1)), (x1002_1), (x1003_1), (x1004_1), (u1002), zG129, H', ⟨zH128⟩, ⟨by (with_reducible repeat (first | apply zl | apply zm | apply zn)); exact zt HO_1.out (fun _ hk => ⟨hk.1.1, hk.1.2⟩)⟩, ⟨by (with_reducible repeat (first | apply zl | apply zm | apply zn)); exact zt HO_1002.out (fun _ hk => ⟨hk.1.1, hk.1.2⟩)⟩, ⟨zH107⟩, ⟨zH46⟩, ⟨zH88⟩⟩
   rw [if_pos c25] at H
   have c25b0 : (t353 == 0) = true := beq_iff_eq.mpr c25
   have c25b1 : (t353 != 0) = false := bne_eq_false_iff_eq.mpr c25
   clear c25
   replace H := Option.bind_eq_some_iff.mp H
   obtain ⟨⟨t354, t357, t358⟩, A260, H⟩ := H
   replace H : (spec_l21Search_try.l0 k1 l1 (wrap64 (x5_1 + 1)) l0_0 l0_1 t354 t357 t358) = some (r1, r2, r3) := H
   have A26 := za A260
   clear A260
   have H' := za H
   clear H
   obtain ⟨hcz27_0, hcz27_1, hcz27_2, hcz27_3, hcz27_4, hfz27_0, hfz27_1, hfz27_2, hfz27_3, hfz27_4⟩ := zB5 BK0.out
   try go_wp2_with (first | ((with_reducible refine gate_dst (N := 58) rfl ?_); refine zbh (Kd.int .i64) _ 3 ?hg (N := 58) ?hd (xs := ([] : List Int)) (inner := []) (ok := fun _ => True) (okp := fun _ => True) ?hr ?hp (fun _ hk => hk) trivial (Below.refl _ _) (Nat.le_refl _) (by simp) ?_; (case hd => rfl); (case hg => rfl); (case hr => exact zH125); (case hp => exact zH131); intro v345 w28 ho29 hb hg_ hnew_; clear hg_ hnew_; (first | rw [← Ny344.out] at ho29 | (simp only [Int.reduceToNat] at ho29; rw [← Ny344.out] at ho29)); have n_ := zA_ (za (zak zG116 (zag ho29) hb)) (zA_ (za (zak zK245 (zag ho29) hb)) (zA_ (za (zam (zao (zao (zca (M := fun k_ => ((P0_2_ k_ ∨ P1_ k_) ∨ w.heap.size ≤ k_)) ho29 zK185 (fun k_ h_ => .inr h_)) (zaf zG116)) (zaf zK245)) (zo zG96))) (zA_ (za (zp (g := gi0) (o := .cells #[.slice A0_0 l0_0.length c0_0, .slice A0_1 l0_1.length c0_1, u1002, .int .i64 x1003_1, .bool x1004_1] 148 (0, 0)) zK240 hb)) (zA_ (za (Kept.below (S := (fun k_ => (P0_2_ k_ ∨ P1_ k_) ∨ k_ = gi0)) zG91 hb)) (za (zr zG96 hb)))))); clear HO_1 HO_1002 BK0 HK HB; obtain ⟨HO_1, HO_1002, HO346, BK0, HK, HB⟩ := n_; clear hb ho29) | ((with_reducible refine gate_builtin (b := .append) (xs := #[.tmp 58, .tmp 59]) rfl ?_); at_builtin; refine Kd.R_append_rows (Kd.int .i64) (w0 := w0) w0.heap.size rfl (.tmp 58) (.tmp 59) 24 3 (.int .i64 0) 8 rfl Try.underlying24 info3 rfl zG131 (by omega) v345 y344 l1 _ _ _ (fun k_ => ((P0_2_ k_ ∨ P1_ k_) ∨ w.heap.size ≤ k_) ∧ some k_ ≠ (.slice Ao19 l1.length co19 : Value).ownBlock ∧ some k_ ≠ (u1002 : Value).ownBlock) (fun _ => False) rfl rfl ?aO ?aR (fun _ _ h => h) (fun _ h => h.elim) ?aF ?aB ?aS ?aL ?_; (case aR => exact zH67); (case aB => exact zG96); (case aF => exact zH9); (case aO => exact zH77); (case aS => exact (zo zG96)); (case aL => have := LMc22.out; omega); intro v348 w30 ho hb hg hat; rw [← Ny347.out] at ho; have n_ := zA_ (za (zbn (ok := (fun k_ => ((P0_2_ k_ ∨ P1_ k_) ∨ w.heap.size ≤ k_) ∧ some k_ ≠ (u1002 : Value).ownBlock)) zG116 hg hat)) (zA_ (za (zbn (ok := (fun k_ => ((P0_2_ k_ ∨ P1_ k_) ∨ w.heap.size ≤ k_) ∧ some k_ ≠ (.slice Ao19 l1.length co19 : Value).ownBlock)) zK245 hg hat)) (zA_ (za (zas (g := gi0) (o := .cells #[.slice A0_0 l0_0.length c0_0, .slice A0_1 l0_1.length c0_1, u1002, .int .i64 x1003_1, .bool x1004_1] 148 (0, 0)) zK240 hg (zbj HO346.out BK0.out zG131))) (zA_ (za (hb)) (zA_ (za (zby (S := (fun k_ => (P0_2_ k_ ∨ P1_ k_) ∨ k_ = gi0)) hg zG91 (fun k_ e_ => (Or.imp_left (fun z_ => (Or.inl z_)) ((HO346.out.1 k_ e_).1.1.1))))) (za (ho)))))); clear HO_1 HO_1002 BK0 HB HK HO346; obtain ⟨HO_1, HO_1002, BK0, HB, HK, HO349⟩ := n_; clear ho hb hg hat) | ((with_reducible refine gate_builtin (b := .append) (xs := #[.tmp 60, .tmp 62]) rfl ?_); at_builtin; refine zbx (Kd.int .i64) (w0 := w0) w0.heap.size rfl (.tmp 60) (.tmp 62) 24 3 (.int .i64 0) 8 rfl Try.underlying24 info3 rfl zG131 (by omega) v348 y347 x5_1 [.int .i64 x5_1] (fun k_ => ((P0_2_ k_ ∨ P1_ k_) ∨ w.heap.size ≤ k_) ∧ some k_ ≠ (.slice Ao19 l1.length co19 : Value).ownBlock ∧ some k_ ≠ (u1002 : Value).ownBlock) (fun _ => False) rfl rfl ?aP (fun _ hk => hk.elim) ?aF ?aO ?aB ?aS ?aL ?_; (case aP => exact rfl); (case aB => exact zG96); (case aF => exact zH9); (case aO => exact (by (with_reducible repeat (first | apply zl | apply zm | apply zn)); exact HO349.out)); (case aS => exact (zo zG96)); (case aL => have := LMc23.out; omega); intro v351 w31 ho hb hg hat; rw [← Ny350.out] at ho; have n_ := zA_ (za (zbn (ok := (fun k_ => ((P0_2_ k_ ∨ P1_ k_) ∨ w.heap.size ≤ k_) ∧ some k_ ≠ (u1002 : Value).ownBlock)) zG116 hg hat)) (zA_ (za (zbn (ok := (fun k_ => ((P0_2_ k_ ∨ P1_ k_) ∨ w.heap.size ≤ k_) ∧ some k_ ≠ (.slice Ao19 l1.length co19 : Value).ownBlock)) zK245 hg hat)) (zA_ (za (zas (g := gi0) (o := .cells #[.slice A0_0 l0_0.length c0_0, .slice A0_1 l0_1.length c0_1, u1002, .int .i64 x1003_1, .bool x1004_1] 148 (0, 0)) zK240 hg (zbj HO349.out BK0.out zG131))) (zA_ (za (hb)) (zA_ (za (zby (S := (fun k_ => (P0_2_ k_ ∨ P1_ k_) ∨ k_ = gi0)) hg zG91 (fun k_ e_ => (Or.imp_left (fun z_ => (Or.inl z_)) ((HO349.out.1 k_ e_).1))))) (za (ho)))))); clear HO_1 HO_1002 BK0 HB HK HO349; obtain ⟨HO_1, HO_1002, BK0, HB, HK, HO352⟩ := n_; clear ho hb hg hat))
   obtain ⟨n0_, n1_, n2_, n3_, n4_, n5_⟩ := zD6 (zn HO_1.out) (zn HO_1002.out) (zn HO352.out) (zg BK0.out) (Kept.drew HK.out) (zh HB.out)
   clear HO_1 HO_1002 HO352 BK0 HK HB
   have HO_1 := n0_
   have HO_1002 := n1_
   have HO352 := n2_
   have BK0 := n3_
   have HK := n4_
   have HB := n5_
   clear n0_ n1_ n2_ n3_ n4_ n5_
   obtain ⟨Ao33, co33, eo33⟩ := zal HO352.out
   (first | subst eo33 | (injection eo33 with f1_ f2_ f3_; have f4_ := f1_.symm; have f5_ := f3_.symm; clear f1_ f2_ f3_; subst f4_; subst f5_))
   refine start_ (n := 13) (S := fun w' => w'.cell? ⟨gi0, 0, none⟩ = some (.slice A0_0 l0_0.length c0_0) ∧ w'.cell? ⟨gi0, 1, none⟩ = some (.slice A0_1 l0_1.length c0_1) ∧ w'.cell? ⟨gi0, 2, none⟩ = some (u1002) ∧ w'.cell? ⟨gi0, 3, none⟩ = some (.int .i64 x1003_1) ∧ w'.cell? ⟨gi0, 4, none⟩ = some (.bool x1004_1)) (ds := []) b14A12 zG130 rfl rfl ⟨(zk BK0.out 0).trans rfl, (zk BK0.out 1).trans rfl, (zk BK0.out 2).trans rfl, (zk BK0.out 3).trans rfl, (zk BK0.out 4).trans rfl⟩ (fun hHeld => ?_); refine with_tabW spec_l21Search_try.tab10 spec_l21Search_try.bits10 (fun HT_ HW_ => ?_)
   generalize w31.drew = w32 at HO_1 HO_1002 HO352 BK0 HK HB hHeld ⊢
   refine zP 0 64 b14A13 HT_ ?_
   refine zP 1 65 b14A14 HT_ ?_
   refine zP 2 66 b14A15 HT_ ?_
   refine zP 4 68 b14A16 HT_ ?_
   refine zP 5 69 b14A17 HT_ ?_
   refine zP 6 70 b14A18 HT_ ?_
   refine zP 8 72 b14A19 HT_ ?_
   refine zP 9 73 b14A20 HT_ ?_
   refine zP 10 74 b14A21 HT_ ?_
   refine zQ 3 67 b14A22 HT_ HW_ hHeld ?_
   refine zQ 7 71 b14A23 HT_ HW_ hHeld ?_
   refine one_ (i := 11) (N := some 75) b14A24 rfl rfl (one_of HT_.out zG130) zG131 (fun K hK => ?_)
   refine goes_ Try.func140 zG130 rfl #[.slice A0_0 l0_0.length c0_0, .slice A0_1 l0_1.length c0_1, .slice Ao33 y350.length co33, .int .i64 (l1.length : Int)] (by rfl) rfl rfl zG93 ?_
   with_reducible refine (spec_l21Code.calls k1 _ _ l0_0 _ _ l0_1 _ _ y350 (l1.length : Int) t353 _ ?side1 ?side2 ?side3 ?side4 ?side5 ?side6 A24.out).mono ?_
   (case side1 => exact zaw HR0_0.out zG91)
   (case side2 => exact HC0_0.out)
   (case side3 => exact zaw HR0_1.out zG91)
   (case side4 => exact HC0_1.out)
   (case side5 => exact zH64)
   (case side6 => exact (zad HO352.out).2.1)
   rintro e w34 ⟨rfl, hb⟩
   refine ⟨_, rfl, ?_⟩
   obtain ⟨n0_, n1_, n2_, n3_, n4_, n5_⟩ := zD6 (zq zG116 hb) (zq zK245 hb) (zq (by (with_reducible repeat (first | apply zl | apply zm | apply zn)); exact HO352.out) hb) (zp (g := gi0) (o := .cells #[.slice A0_0 l0_0.length c0_0, .slice A0_1 l0_1.length c0_1, u1002, .int .i64 x1003_1, .bool x1004_1] 148 (0, 0)) zK240 hb) (Kept.below (S := (fun k_ => (P0_2_ k_ ∨ P1_ k_) ∨ k_ = gi0)) zG91 hb) (zr zG96 hb)
   clear HO_1 HO_1002 HO352 BK0 HK HB
   have HO_1 := n0_
   have HO_1002 := n1_
   have HO352 := n2_
   have BK0 := n3_
   have HK := n4_
   have HB := n5_
   clear n0_ n1_ n2_ n3_ n4_ n5_
   (try clear hb)
   (try clear hb2)
   (try clear hk)
   (try clear hi)
   refine hK.out _ _ ⟨(zk BK0.out 0).trans rfl, (zk BK0.out 1).trans rfl, (zk BK0.out 2).trans rfl, (zk BK0.out 3).trans rfl, (zk BK0.out 4).trans rfl⟩ (fun hHeld => ?_)
   clear hK K
   refine norm_ (a' := ?_) ?_ ?_
   rotate_left
   ·show Act.put _ (some 75) _ = _
    simp only [Act.put, List.setIfInBounds_toArray, List.set_cons_zero, List.set_cons_succ, i64_w, i32_w]
    rfl
   refine zP 12 76 b14A25 HT_ ?_
   refine done_ (done_of HT_.out zG130) ?_
   obtain ⟨Ao35, co35, eo35⟩ := zal HO_1002.out
   subst eo35
   try go_wp2_with (first | ((with_reducible refine gate_callee (f := 101) rfl ?_); refine goesL_ (some 79) rfl rfl Try.func101 zG130 rfl #[.pointer (some ⟨gi0, 0, none⟩), .slice Ao33 y350.length co33] rfl zG93 ?_; (with_reducible refine (ih k1 (by have := HK1.out; omega) gi0 A0_0 c0_0 l0_0 A0_1 c0_1 l0_1 (fun k_ => some k_ = (.slice Ao35 x1002_1.length co35 : Value).ownBlock) (.slice Ao35 x1002_1.length co35) x1002_1 x1003_1 x1004_1 (fun k_ => some k_ = (.slice Ao33 y350.length co33 : Value).ownBlock) (.slice Ao33 y350.length co33) y350 t354 t357 t358 w0 _ ?side1 ?side2 ?side3 ?side4 ?side5 ?side6 ?side7 ?side8 ?side9 ?side10 ?side11 A26.out).mono ?_); (case side1 => repeat (first | (with_reducible first | exact HB.out | apply zi | apply zc | apply zh | refine zf ?_ GE0.out) | exact HB.out)); (case side2 => exact zK240); (case side3 => exact GE0.out); (case side4 => exact zcc HR0_0.out zG91 (fun k_ hs_ => Or.elim hs_ (fun hs_ => Or.elim hs_ (fun e_ => (fun e_ => (Or.imp_left (fun z_ => (Or.inl z_)) ((HO_1002.out.1 k_ e_.symm).1.1))) e_) (fun e_ => (fun e_ => (Or.imp_left (fun z_ => (Or.inl z_)) ((HO352.out.1 k_ e_.symm).1))) e_)) (fun e_ => .inl (Or.inr e_)))); (case side5 => exact HC0_0.out); (case side6 => exact zcc HR0_1.out zG91 (fun k_ hs_ => Or.elim hs_ (fun hs_ => Or.elim hs_ (fun e_ => (fun e_ => (Or.imp_left (fun z_ => (Or.inl z_)) ((HO_1002.out.1 k_ e_.symm).1.1))) e_) (fun e_ => (fun e_ => (Or.imp_left (fun z_ => (Or.inl z_)) ((HO352.out.1 k_ e_.symm).1))) e_)) (fun e_ => .inl (Or.inr e_)))); (case side7 => exact HC0_1.out); (case side8 => exact zbw rfl HO_1002.out); (case side9 => exact fun k_ e_ => (HO_1002.out.1 k_ e_.symm).2); (case side10 => exact zbw rfl HO352.out); (case side11 => exact fun k_ e_ => (HO352.out.1 k_ e_.symm).2.2); rintro e w36 ⟨v355, rfl, ho0, hz0, hb, hkp⟩; refine ⟨_, rfl, ?_⟩; have n_ := zA_ (za (zt (ok' := fun k_ => ((P0_2_ k_ ∨ P1_ k_) ∨ w.heap.size ≤ k_) ∧ some k_ ≠ (v355 : Value).ownBlock) (Kd.R_keptB ((zv HO_1.out BK0.out zG131)) hkp (fun k_ hk_ hs_ => Or.elim hs_ (fun hs_ => Or.elim hs_ (fun e_ => (hk_.1.1.2) e_) (fun e_ => (hk_.1.2) e_)) (fun e_ => (hk_.2) e_))) (fun k_ hk_ => ⟨hk_.1.1.1.1, fun e_ => Or.elim (ho0.1 k_ e_.symm) (fun hs_ => hk_.2.1 (Or.inl hs_)) (fun hn_ => Nat.not_le.2 hk_.2.2 hn_)⟩))) (zA_ (za (hz0)) (zA_ (za (zt (ok' := fun k_ => ((P0_2_ k_ ∨ P1_ k_) ∨ w.heap.size ≤ k_) ∧ some k_ ≠ (.slice Ao19 l1.length co19 : Value).ownBlock) ho0 (fun k_ hk_ => ⟨Or.elim hk_ (fun hs_ => Or.elim hs_ (fun hs_ => (HO_1002.out.1 k_ (hs_).symm).1.1) (fun hs_ => (HO352.out.1 k_ (hs_).symm).1)) (fun hn_ => (.inr (Nat.le_trans zK185 hn_))), Or.elim hk_ (fun hs_ => Or.elim hs_ (fun hs_ => fun e_ => ((((zv HO_1.out BK0.out zG131)).1 k_ e_.symm).1.1.2) hs_) (fun hs_ => fun e_ => ((((zv HO_1.out BK0.out zG131)).1 k_ e_.symm).1.2) hs_)) (fun hn_ => (Kd.fresh' (zaf zG116) k_ hn_))⟩))) (zA_ (za (Kept.then_ (S := (fun k_ => (P0_2_ k_ ∨ P1_ k_) ∨ k_ = gi0)) zG91 hkp (fun k_ hs_ => Or.elim hs_ (fun hs_ => Or.elim hs_ (fun e_ => (fun e_ => (Or.imp_left (fun z_ => (Or.inl z_)) ((HO_1002.out.1 k_ e_.symm).1.1))) e_) (fun e_ => (fun e_ => (Or.imp_left (fun z_ => (Or.inl z_)) ((HO352.out.1 k_ e_.symm).1))) e_)) (fun e_ => .inl (Or.inr e_))))) (za (hb))))); clear HO_1 BK0 HK HB HO352 HO_1002; obtain ⟨HO_1, BK0, HO356, HK, HB⟩ := n_; (try clear hb); (try clear hkp); (try clear ho0); (try clear hz0)))
   go_roundg k1
   case measure => have := HK1.out; omega
   case rel => exact ⟨(wrap64 (x5_1 + 1)), (t354), (t357), (t358), (v355), zG129, H', ⟨zH128⟩, ⟨by (with_reducible repeat (first | apply zl | apply zm | apply zn)); exact HO_1.out⟩, ⟨by (with_reducible repeat (first | apply zl | apply zm | apply zn)); exact HO356.out⟩, ⟨zH107⟩, ⟨zH46⟩, ⟨zH88⟩⟩
end Go.Proofs.Ytojncbpeeboooaa.Y
