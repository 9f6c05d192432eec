-- squeezed
-- made by pp.py (wip/tools) out of the translation; Lean checks it
import Derived.Test.YtdohpbhljifodaaC0
import Derived.Test.YtdohpbhljifodaaC3
import Derived.Test.YtdohpbhljifodaaC4
namespace Go.Proofs.Ytdohpbhljifodaa.C
open Go.RowKit Go.Proofs.YtdohpbhljifodaaW.PrintWords Go.Proofs.YtdohpbhljifodaaW.PrintLast Go.Proofs.YtdohpbhljifodaaW.PrintMore
attribute [local go_sem] max2_int min2_int max_two min_two max_three min_three max_four min_four   -- for this text's walks alone
set_option linter.unusedVariables false
set_option linter.unusedSimpArgs false

abbrev b5A0 := zM 12 1023
/-! ### spec_CartRun: function 9 -/
def spec_CartRun.l0 : Nat → List (S54) → List (S34) → Int → Int → Int → Int → List (S36) → Option ((List (S34)) × Int × Int × Int × (List (S36)) × Int)
 | 0, _, _, _, _, _, _, _ => none
 | k + 1, x1, x8, x9, x193000, x193001, x193002, x193003 => if x9 < (x1.length : Int) then (if 0 ≤ x9 then ((spec_l23Act.f k x193000 x193001 x193002 x193003 ((rd_T54 x1 x9).f0) ((rd_T54 x1 x9).f1) ((rd_T54 x1 x9).f2) ((rd_T54 x1 x9).f3)).bind fun bt197 => (if x8.length < 8796093022208 then (spec_CartRun.l0 k x1 (x8 ++ [(⟨bt197.2.2.2.2, bt197.2.1⟩ : S34)]) (wrap64 (x9 + 1)) bt197.1 bt197.2.1 bt197.2.2.1 bt197.2.2.2.1) else (none))) else (none)) else (some (x8, x193000, x193001, x193002, x193003, 0))
def spec_CartRun.f (k : Nat) (a0 : Int) (l1 : List (S54)) : Option ((List (S34)) × Int × Int × Int × (List (S36)) × Int) := if (l1.length : Int) > 4096 then (some ((([] : List (S34))), 0, 0, 0, ([] : List (S36)), 2)) else ((spec_l01In.f a0 0 100000).bind fun t185 => (if t185 = true then (if (l1.length : Int) > 200 then (some ((([] : List (S34))), 0, 0, 0, ([] : List (S36)), 9)) else (spec_CartRun.l0 k l1 (([] : List (S34))) 0 0 a0 0 ([] : List (S36)))) else (some ((([] : List (S34))), 0, 0, 0, ([] : List (S36)), 5))))
theorem spec_CartRun.mono_l : ∀ k, (∀ y0 y1 y2 y3 y4 y5 y6, LeO (spec_CartRun.l0 k y0 y1 y2 y3 y4 y5 y6) (spec_CartRun.l0 (k + 1) y0 y1 y2 y3 y4 y5 y6))
 | 0 => fun _ _ _ _ _ _ _ r h => by simp [spec_CartRun.l0] at h
 | k + 1 => by
  have ih0 := spec_CartRun.mono_l k
  ·intro y0 y1 y2 y3 y4 y5 y6
   unfold spec_CartRun.l0
   repeat' first
   | (with_reducible exact ih0 _ _ _ _ _ _ _)
   | (with_reducible exact spec_l23Act.mono _ _ _ _ _ _ _ _ _)
   | (with_reducible exact LeO.refl _)
   | (with_reducible exact LeO.none _)
   | (with_reducible refine LeO.ite ?_ ?_)
   | (with_reducible refine LeO.bind ?_ (fun _ => ?_))
   | exact ih0 _ _ _ _ _ _ _
   | exact spec_l23Act.mono _ _ _ _ _ _ _ _ _
   | exact LeO.none _
   | refine LeO.ite ?_ ?_
   | refine LeO.bind ?_ (fun _ => ?_)
theorem spec_CartRun.mono : ∀ a0 a1 k, LeO (spec_CartRun.f k a0 a1) (spec_CartRun.f (k + 1) a0 a1) := by
 intro a0 a1 k
 have ih0 := spec_CartRun.mono_l k
 unfold spec_CartRun.f
 repeat' first
   | (with_reducible exact ih0 _ _ _ _ _ _ _)
   | (with_reducible exact spec_l23Act.mono _ _ _ _ _ _ _ _ _)
   | (with_reducible exact LeO.refl _)
   | (with_reducible exact LeO.none _)
   | (with_reducible refine LeO.ite ?_ ?_)
   | (with_reducible refine LeO.bind ?_ (fun _ => ?_))
   | exact ih0 _ _ _ _ _ _ _
   | exact spec_l23Act.mono _ _ _ _ _ _ _ _ _
   | exact LeO.none _
   | refine LeO.ite ?_ ?_
   | refine LeO.bind ?_ (fun _ => ?_)
def spec_CartRun.T12 : Bool × List (List Nat × List Nat) := (true, [([], []), ([], []), ([], []), ([1, 2], [1, 2]), ([3], [3]), ([0, 4], [0, 4]), ([5], [5]), ([6], [6]), ([6], [6]), ([], []), ([9, 7, 5, 0, 1, 2, 3, 4, 5, 6, 7, 9], [7, 9]), ([8, 10, 0, 1, 2, 3, 4, 5, 6, 7, 8, 9, 10], [8])])
def spec_CartRun.B12 : List Nat := [0, 0, 0, 6, 14, 31, 63, 127, 127, 0, 767, 2047]
theorem spec_CartRun.tab12 : rtab .any (opsOf Try.f9 12) = spec_CartRun.T12 := by kernel_rfl
theorem spec_CartRun.bits12 : waitsOk spec_CartRun.T12.2 spec_CartRun.B12 = true := by kernel_rfl
set_option maxHeartbeats 64000000 in
set_option maxRecDepth 100000 in
theorem spec_CartRun.calls (k : Nat) (a0 : Int) (A1 : Option Addr) (c1 : Nat) (l1 : List (S54)) (r1 : List (S34)) (r2 : Int) (r3 : Int) (r4 : Int) (r5 : List (S36)) (r6 : Int) (w : World) (hr1 : Kd.C k54 w A1 l1.length l1) (hc1 : l1.length ≤ c1) (h : spec_CartRun.f k a0 l1 = some (r1, r2, r3, r4, r5, r6)) :
  Calls Try.prog 9 #[.int .i64 a0, .slice A1 l1.length c1] w fun e w' => ∃ v0_ v4_ : Value, e = .returned (.tuple #[v0_, .agg #[.int .i64 r2, .int .i64 r3, .int .i64 r4, v4_], .int .i64 r6]) ∧ Kd.R k34 34 w' w.heap.size (fun _ => True) v0_ r1 ∧ Kd.R k36 36 w' w.heap.size (fun _ => True) v4_ r5 ∧ Below w.heap.size w w' := by
 have hu30 := Try.underlying30
 have hu54 := Try.underlying54
 have hu34 := Try.underlying34
 obtain ⟨HR1, HC1, HB⟩ := zD3 hr1 hc1 (Below.refl w.heap.size w)
 clear hr1 hc1
 have H : (if (l1.length : Int) > 4096 then (some ((([] : List (S34))), 0, 0, 0, ([] : List (S36)), 2)) else ((spec_l01In.f a0 0 100000).bind fun t185 => (if t185 = true then (if (l1.length : Int) > 200 then (some ((([] : List (S34))), 0, 0, 0, ([] : List (S36)), 9)) else (spec_CartRun.l0 k l1 (([] : List (S34))) 0 0 a0 0 ([] : List (S36)))) else (some ((([] : List (S34))), 0, 0, 0, ([] : List (S36)), 5))))) = some (r1, r2, r3, r4, r5, r6) := h
 clear h
 by_cases c3 : (l1.length : Int) > 4096
 ·rw [if_pos c3] at H
  have c3b0 : decide (4096 < (l1.length : Int)) = true := decide_eq_true c3
  have c3b1 : decide (4096 < l1.length) = true := decide_eq_true (by omega)
  clear c3
  obtain ⟨y182, hy182⟩ : ∃ y_ : List (S34), y_ = (([] : List (S34))) := ⟨_, rfl⟩
  replace H : (some (y182, 0, 0, 0, ([] : List (S36)), 2)) = some (r1, r2, r3, r4, r5, r6) := by first | (rw [hy182]; with_reducible exact H) | (have H2_ := (Option.bind_some _ _).symm.trans H; rw [hy182]; with_reducible exact H2_) | (have H2_ := (Option.bind_some _ _).symm.trans H; with_reducible exact H2_) | with_reducible exact H | (rw [hy182]; exact H) | exact H
  have Ny182 := za hy182
  clear hy182
  simp only [Option.some.injEq, Prod.mk.injEq] at H
  obtain ⟨rfl, rfl, rfl, rfl, rfl, rfl⟩ := H
  go_enter Try.func9, Try.ntmps9
  go_wp2_with (first | ((with_reducible refine gate_dst (N := 5) rfl ?_); refine box_event ?hg (N := 5) ?hd (cs := #[.int .i64 0, .int .i64 0, .int .i64 0, .slice none 0 0]) (t := 30) ?hr ?_; (case hd => rfl); (case hg => rfl); (case hr => exact zH89); intro gb181 hg w4 hbox hb; have n_ := zA_ (za (zt zG70 hb)) (zA_ (za (hbox)) (zA_ (zN1 w.heap.size hg (zs zG70)) (zN1 w.heap.size hg (zs zG70)))); clear HB; obtain ⟨HB, BK181, GW181, GE181⟩ := n_; clear hb hbox hg) | ((with_reducible refine gate_dst (N := 15) rfl ?_); refine Kd.R_lit k34 _ 34 ?hg (N := 15) ?hd (xs := ([] : List (S34))) (inner := []) (ok := fun _ => True) (okp := fun _ => True) ?hr ?hp (fun _ hk => hk) trivial (Below.refl _ _) (Nat.le_refl _) (by simp) ?_; (case hd => rfl); (case hg => rfl); (case hr => exact zH89); (case hp => exact (Reps.none _ _)); intro v183 w5 ho6 hb hg_ hnew_; clear hg_ hnew_; (first | rw [← Ny182.out] at ho6 | (simp only [Int.reduceToNat] at ho6; rw [← Ny182.out] at ho6)); have n_ := zA_ (za (zag ho6 (zs zG64))) (zA_ (za (zq (g := gb181) (o := .cells #[.int .i64 0, .int .i64 0, .int .i64 0, .slice none 0 0] 30 (0, 0)) zG73 hb)) (za (zt zG64 hb))); clear BK181 HB; obtain ⟨HO184, BK181, HB⟩ := n_; clear hb ho6; obtain ⟨hcz7_0, hcz7_1, hcz7_2, hcz7_3, hfz7_0, hfz7_1, hfz7_2, hfz7_3⟩ := zB4 BK181.out))
  refine bodyPost_ret (results_list (rs := [.tmp 4, .cell 5 30, .tmp 6]) rfl (by simp) (.tmp (.cell gb181 30 #[.int .i64 0, .int .i64 0, .int .i64 0, .slice none 0 0] (0, 0) _ rfl zK98 Try.underlying30 rfl zG88 (.tmp .nil)))) rfl ?_
  exact ⟨_, _, zH78, by (with_reducible repeat (first | apply zm | apply zl | apply zn)); exact zr (zo (p := ⟨gb181, 3, none⟩) (zo (p := ⟨gb181, 2, none⟩) (zo (p := ⟨gb181, 1, none⟩) (zo (p := ⟨gb181, 0, none⟩) (zw HO184.out BK181.out zG89) (fun _ hk => hk.2) (.int .i64 0)) (fun _ hk => hk.2) (.int .i64 0)) (fun _ hk => hk.2) (.int .i64 0)) (fun _ hk => hk.2) (.slice none 0 0)) (fun _ hk => trivial), zH54, zH52⟩
 rw [if_neg c3] at H
 have c3b0 : decide (4096 < (l1.length : Int)) = false := decide_eq_false c3
 have c3b1 : decide (4096 < l1.length) = false := decide_eq_false (by omega)
 clear c3
 replace H := Option.bind_eq_some_iff.mp H
 obtain ⟨t185, A80, H⟩ := H
 replace H : (if t185 = true then (if (l1.length : Int) > 200 then (some ((([] : List (S34))), 0, 0, 0, ([] : List (S36)), 9)) else (spec_CartRun.l0 k l1 (([] : List (S34))) 0 0 a0 0 ([] : List (S36)))) else (some ((([] : List (S34))), 0, 0, 0, ([] : List (S36)), 5))) = some (r1, r2, r3, r4, r5, r6) := H
 have A8 := za A80
 clear A80
 by_cases c9 : t185 = true
 rotate_left
 ·replace c9 := Bool.eq_false_iff.mpr c9
  subst c9
  have H1 : (some ((([] : List (S34))), 0, 0, 0, ([] : List (S36)), 5)) = some (r1, r2, r3, r4, r5, r6) := by rw [if_neg (show ¬ (false = true) by decide)] at H; exact H
  clear H
  have H := H1
  clear H1
  obtain ⟨y186, hy186⟩ : ∃ y_ : List (S34), y_ = (([] : List (S34))) := ⟨_, rfl⟩
  replace H : (some (y186, 0, 0, 0, ([] : List (S36)), 5)) = some (r1, r2, r3, r4, r5, r6) := by first | (rw [hy186]; with_reducible exact H) | (have H2_ := (Option.bind_some _ _).symm.trans H; rw [hy186]; with_reducible exact H2_) | (have H2_ := (Option.bind_some _ _).symm.trans H; with_reducible exact H2_) | with_reducible exact H | (rw [hy186]; exact H) | exact H
  have Ny186 := za hy186
  clear hy186
  simp only [Option.some.injEq, Prod.mk.injEq] at H
  obtain ⟨rfl, rfl, rfl, rfl, rfl, rfl⟩ := H
  go_enter Try.func9, Try.ntmps9
  go_wp2_with (first | ((with_reducible refine gate_dst (N := 5) rfl ?_); refine box_event ?hg (N := 5) ?hd (cs := #[.int .i64 0, .int .i64 0, .int .i64 0, .slice none 0 0]) (t := 30) ?hr ?_; (case hd => rfl); (case hg => rfl); (case hr => exact zH89); intro gb181 hg w49 hbox hb; have n_ := zA_ (za (zt zG70 hb)) (zA_ (za (hbox)) (zA_ (zN1 w.heap.size hg (zs zG70)) (zN1 w.heap.size hg (zs zG70)))); clear HB; obtain ⟨HB, BK181, GW181, GE181⟩ := n_; clear hb hbox hg) | ((with_reducible refine gate_callee (f := 25) rfl ?_); refine goesL_ (some 18) rfl rfl Try.func25 zG88 rfl #[.int .i64 a0, .int .i64 0, .int .i64 100000] rfl zG63 ?_; (with_reducible refine (spec_l01In.calls a0 0 100000 false _ A8.out).mono ?_); rintro e w' ⟨rfl, ⟨nd, rfl⟩⟩; refine ⟨_, rfl, ?_⟩; (try (rw [drewN_self w49]; generalize hq_ : World.drewN w49 _ = w49; have n0_ : Aside0 (w49.heap[gb181]? = some (.cells #[.int .i64 0, .int .i64 0, .int .i64 0, .slice none 0 0] 30 (0, 0))) := ⟨by rw [← hq_]; exact zG73⟩; have n1_ : Aside0 (Below w.heap.size w w49) := ⟨by rw [← hq_]; exact zG64⟩; clear BK181 HB hq_; have BK181 := n0_; have HB := n1_; clear n0_ n1_)); (try have hcu50_0 : w49.cell? ⟨gb181, 0, none⟩ = some (.int .i64 0) := (zc BK181.out 0).trans rfl); (try have hcu50_1 : w49.cell? ⟨gb181, 1, none⟩ = some (.int .i64 0) := (zc BK181.out 1).trans rfl); (try have hcu50_2 : w49.cell? ⟨gb181, 2, none⟩ = some (.int .i64 0) := (zc BK181.out 2).trans rfl); (try have hcu50_3 : w49.cell? ⟨gb181, 3, none⟩ = some (.slice none 0 0) := (zc BK181.out 3).trans rfl); (try have hfcu50_0 := ze BK181.out 0); (try have hfcu50_1 := ze BK181.out 1); (try have hfcu50_2 := ze BK181.out 2); (try have hfcu50_3 := ze BK181.out 3)) | ((with_reducible refine gate_dst (N := 20) rfl ?_); refine Kd.R_lit k34 _ 34 ?hg (N := 20) ?hd (xs := ([] : List (S34))) (inner := []) (ok := fun _ => True) (okp := fun _ => True) ?hr ?hp (fun _ hk => hk) trivial (Below.refl _ _) (Nat.le_refl _) (by simp) ?_; (case hd => rfl); (case hg => rfl); (case hr => exact zH89); (case hp => exact (Reps.none _ _)); intro v187 w51 ho52 hb hg_ hnew_; clear hg_ hnew_; (first | rw [← Ny186.out] at ho52 | (simp only [Int.reduceToNat] at ho52; rw [← Ny186.out] at ho52)); have n_ := zA_ (za (zag ho52 (zs zG64))) (zA_ (za (zq (g := gb181) (o := .cells #[.int .i64 0, .int .i64 0, .int .i64 0, .slice none 0 0] 30 (0, 0)) zG73 hb)) (za (zt zG64 hb))); clear BK181 HB; obtain ⟨HO188, BK181, HB⟩ := n_; clear hb ho52; obtain ⟨hcz53_0, hcz53_1, hcz53_2, hcz53_3, hfz53_0, hfz53_1, hfz53_2, hfz53_3⟩ := zB4 BK181.out))
  refine bodyPost_ret (results_list (rs := [.tmp 4, .cell 5 30, .tmp 6]) rfl (by simp) (.tmp (.cell gb181 30 #[.int .i64 0, .int .i64 0, .int .i64 0, .slice none 0 0] (0, 0) _ rfl zK98 Try.underlying30 rfl zG88 (.tmp .nil)))) rfl ?_
  exact ⟨_, _, zH78, by (with_reducible repeat (first | apply zm | apply zl | apply zn)); exact zr (zo (p := ⟨gb181, 3, none⟩) (zo (p := ⟨gb181, 2, none⟩) (zo (p := ⟨gb181, 1, none⟩) (zo (p := ⟨gb181, 0, none⟩) (zw HO188.out BK181.out zG89) (fun _ hk => hk.2) (.int .i64 0)) (fun _ hk => hk.2) (.int .i64 0)) (fun _ hk => hk.2) (.int .i64 0)) (fun _ hk => hk.2) (.slice none 0 0)) (fun _ hk => trivial), zH54, zH52⟩

 subst c9
 have H1 : (if (l1.length : Int) > 200 then (some ((([] : List (S34))), 0, 0, 0, ([] : List (S36)), 9)) else (spec_CartRun.l0 k l1 (([] : List (S34))) 0 0 a0 0 ([] : List (S36)))) = some (r1, r2, r3, r4, r5, r6) := by rw [if_pos rfl] at H; exact H
 clear H
 have H := H1
 clear H1
 by_cases c10 : (l1.length : Int) > 200
 ·rw [if_pos c10] at H
  have c10b0 : decide (200 < (l1.length : Int)) = true := decide_eq_true c10
  have c10b1 : decide (200 < l1.length) = true := decide_eq_true (by omega)
  clear c10
  obtain ⟨y189, hy189⟩ : ∃ y_ : List (S34), y_ = (([] : List (S34))) := ⟨_, rfl⟩
  replace H : (some (y189, 0, 0, 0, ([] : List (S36)), 9)) = some (r1, r2, r3, r4, r5, r6) := by first | (rw [hy189]; with_reducible exact H) | (have H2_ := (Option.bind_some _ _).symm.trans H; rw [hy189]; with_reducible exact H2_) | (have H2_ := (Option.bind_some _ _).symm.trans H; with_reducible exact H2_) | with_reducible exact H | (rw [hy189]; exact H) | exact H
  have Ny189 := za hy189
  clear hy189
  simp only [Option.some.injEq, Prod.mk.injEq] at H
  obtain ⟨rfl, rfl, rfl, rfl, rfl, rfl⟩ := H
  go_enter Try.func9, Try.ntmps9
  go_wp2_with (first | ((with_reducible refine gate_dst (N := 5) rfl ?_); refine box_event ?hg (N := 5) ?hd (cs := #[.int .i64 0, .int .i64 0, .int .i64 0, .slice none 0 0]) (t := 30) ?hr ?_; (case hd => rfl); (case hg => rfl); (case hr => exact zH89); intro gb181 hg w11 hbox hb; have n_ := zA_ (za (zt zG70 hb)) (zA_ (za (hbox)) (zA_ (zN1 w.heap.size hg (zs zG70)) (zN1 w.heap.size hg (zs zG70)))); clear HB; obtain ⟨HB, BK181, GW181, GE181⟩ := n_; clear hb hbox hg) | ((with_reducible refine gate_callee (f := 25) rfl ?_); refine goesL_ (some 18) rfl rfl Try.func25 zG88 rfl #[.int .i64 a0, .int .i64 0, .int .i64 100000] rfl zG63 ?_; (with_reducible refine (spec_l01In.calls a0 0 100000 true _ A8.out).mono ?_); rintro e w' ⟨rfl, ⟨nd, rfl⟩⟩; refine ⟨_, rfl, ?_⟩; (try (rw [drewN_self w11]; generalize hq_ : World.drewN w11 _ = w11; have n0_ : Aside0 (w11.heap[gb181]? = some (.cells #[.int .i64 0, .int .i64 0, .int .i64 0, .slice none 0 0] 30 (0, 0))) := ⟨by rw [← hq_]; exact zG73⟩; have n1_ : Aside0 (Below w.heap.size w w11) := ⟨by rw [← hq_]; exact zG64⟩; clear BK181 HB hq_; have BK181 := n0_; have HB := n1_; clear n0_ n1_)); (try have hcu12_0 : w11.cell? ⟨gb181, 0, none⟩ = some (.int .i64 0) := (zc BK181.out 0).trans rfl); (try have hcu12_1 : w11.cell? ⟨gb181, 1, none⟩ = some (.int .i64 0) := (zc BK181.out 1).trans rfl); (try have hcu12_2 : w11.cell? ⟨gb181, 2, none⟩ = some (.int .i64 0) := (zc BK181.out 2).trans rfl); (try have hcu12_3 : w11.cell? ⟨gb181, 3, none⟩ = some (.slice none 0 0) := (zc BK181.out 3).trans rfl); (try have hfcu12_0 := ze BK181.out 0); (try have hfcu12_1 := ze BK181.out 1); (try have hfcu12_2 := ze BK181.out 2); (try have hfcu12_3 := ze BK181.out 3)) | ((with_reducible refine gate_dst (N := 25) rfl ?_); refine Kd.R_lit k34 _ 34 ?hg (N := 25) ?hd (xs := ([] : List (S34))) (inner := []) (ok := fun _ => True) (okp := fun _ => True) ?hr ?hp (fun _ hk => hk) trivial (Below.refl _ _) (Nat.le_refl _) (by simp) ?_; (case hd => rfl); (case hg => rfl); (case hr => exact zH89); (case hp => exact (Reps.none _ _)); intro v190 w13 ho14 hb hg_ hnew_; clear hg_ hnew_; (first | rw [← Ny189.out] at ho14 | (simp only [Int.reduceToNat] at ho14; rw [← Ny189.out] at ho14)); have n_ := zA_ (za (zag ho14 (zs zG64))) (zA_ (za (zq (g := gb181) (o := .cells #[.int .i64 0, .int .i64 0, .int .i64 0, .slice none 0 0] 30 (0, 0)) zG73 hb)) (za (zt zG64 hb))); clear BK181 HB; obtain ⟨HO191, BK181, HB⟩ := n_; clear hb ho14; obtain ⟨hcz15_0, hcz15_1, hcz15_2, hcz15_3, hfz15_0, hfz15_1, hfz15_2, hfz15_3⟩ := zB4 BK181.out))
  refine bodyPost_ret (results_list (rs := [.tmp 4, .cell 5 30, .tmp 6]) rfl (by simp) (.tmp (.cell gb181 30 #[.int .i64 0, .int .i64 0, .int .i64 0, .slice none 0 0] (0, 0) _ rfl zK98 Try.underlying30 rfl zG88 (.tmp .nil)))) rfl ?_
  exact ⟨_, _, zH78, by (with_reducible repeat (first | apply zm | apply zl | apply zn)); exact zr (zo (p := ⟨gb181, 3, none⟩) (zo (p := ⟨gb181, 2, none⟩) (zo (p := ⟨gb181, 1, none⟩) (zo (p := ⟨gb181, 0, none⟩) (zw HO191.out BK181.out zG89) (fun _ hk => hk.2) (.int .i64 0)) (fun _ hk => hk.2) (.int .i64 0)) (fun _ hk => hk.2) (.int .i64 0)) (fun _ hk => hk.2) (.slice none 0 0)) (fun _ hk => trivial), zH54, zH52⟩
 rw [if_neg c10] at H
 have c10b0 : decide (200 < (l1.length : Int)) = false := decide_eq_false c10
 have c10b1 : decide (200 < l1.length) = false := decide_eq_false (by omega)
 clear c10
 obtain ⟨y193, hy193⟩ : ∃ y_ : List (S34), y_ = (([] : List (S34))) := ⟨_, rfl⟩
 replace H : (spec_CartRun.l0 k l1 y193 0 0 a0 0 ([] : List (S36))) = some (r1, r2, r3, r4, r5, r6) := by first | (rw [hy193]; with_reducible exact H) | (have H2_ := (Option.bind_some _ _).symm.trans H; rw [hy193]; with_reducible exact H2_) | (have H2_ := (Option.bind_some _ _).symm.trans H; with_reducible exact H2_) | with_reducible exact H | (rw [hy193]; exact H) | exact H
 have Ny193 := za hy193
 clear hy193
 have H' := za H
 clear H
 go_enter Try.func9, Try.ntmps9
 go_wp2_with (first | ((with_reducible refine gate_dst (N := 5) rfl ?_); refine box_event ?hg (N := 5) ?hd (cs := #[.int .i64 0, .int .i64 0, .int .i64 0, .slice none 0 0]) (t := 30) ?hr ?_; (case hd => rfl); (case hg => rfl); (case hr => exact zH89); intro gb181 hg w16 hbox hb; have n_ := zA_ (za (zt zG70 hb)) (zA_ (za (hbox)) (zA_ (zN1 w.heap.size hg (zs zG70)) (zN1 w.heap.size hg (zs zG70)))); clear HB; obtain ⟨HB, BK181, GW181, GE181⟩ := n_; clear hb hbox hg) | ((with_reducible refine gate_callee (f := 25) rfl ?_); refine goesL_ (some 18) rfl rfl Try.func25 zG88 rfl #[.int .i64 a0, .int .i64 0, .int .i64 100000] rfl zG63 ?_; (with_reducible refine (spec_l01In.calls a0 0 100000 true _ A8.out).mono ?_); rintro e w' ⟨rfl, ⟨nd, rfl⟩⟩; refine ⟨_, rfl, ?_⟩; (try (rw [drewN_self w16]; generalize hq_ : World.drewN w16 _ = w16; have n0_ : Aside0 (w16.heap[gb181]? = some (.cells #[.int .i64 0, .int .i64 0, .int .i64 0, .slice none 0 0] 30 (0, 0))) := ⟨by rw [← hq_]; exact zG73⟩; have n1_ : Aside0 (Below w.heap.size w w16) := ⟨by rw [← hq_]; exact zG64⟩; clear BK181 HB hq_; have BK181 := n0_; have HB := n1_; clear n0_ n1_)); (try have hcu17_0 : w16.cell? ⟨gb181, 0, none⟩ = some (.int .i64 0) := (zc BK181.out 0).trans rfl); (try have hcu17_1 : w16.cell? ⟨gb181, 1, none⟩ = some (.int .i64 0) := (zc BK181.out 1).trans rfl); (try have hcu17_2 : w16.cell? ⟨gb181, 2, none⟩ = some (.int .i64 0) := (zc BK181.out 2).trans rfl); (try have hcu17_3 : w16.cell? ⟨gb181, 3, none⟩ = some (.slice none 0 0) := (zc BK181.out 3).trans rfl); (try have hfcu17_0 := ze BK181.out 0); (try have hfcu17_1 := ze BK181.out 1); (try have hfcu17_2 := ze BK181.out 2); (try have hfcu17_3 := ze BK181.out 3)) | ((with_reducible refine gate_dst (N := 7) rfl ?_); refine box_event ?hg (N := 7) ?hd (cs := #[.int .i64 0, .int .i64 0, .int .i64 0, .slice none 0 0]) (t := 30) ?hr ?_; (case hd => rfl); (case hg => rfl); (case hr => exact zH89); intro gb192 hg w18 hbox hb; have n_ := zA_ (za (zq (g := gb181) (o := .cells #[.int .i64 0, .int .i64 0, .int .i64 0, .slice none 0 0] 30 (0, 0)) zG73 hb)) (zA_ (za (zt zG64 hb)) (zA_ (za (hbox)) (zA_ (zN1 w.heap.size hg (zs zG64)) (zA_ (zN1 w.heap.size hg (zs zG64)) (zN2 hg (zx (g := gb181) (o := .cells #[.int .i64 0, .int .i64 0, .int .i64 0, .slice none 0 0] 30 (0, 0)) zG73)))))); clear BK181 HB; obtain ⟨BK181, HB, BK192, GW192, GE192, NB181_192, NB192_181⟩ := n_; clear hb hbox hg; have hnb19 := NB192_181.out; have hnc19 := NB181_192.out; obtain ⟨hcz20_0, hcz20_1, hcz20_2, hcz20_3, hfz20_0, hfz20_1, hfz20_2, hfz20_3⟩ := zB4 BK192.out) | ((with_reducible refine gate_dst (N := 29) rfl ?_); refine Kd.R_lit k34 _ 34 ?hg (N := 29) ?hd (xs := ([] : List (S34))) (inner := []) (ok := fun _ => True) (okp := fun _ => True) ?hr ?hp (fun _ hk => hk) trivial (Below.refl _ _) (Nat.le_refl _) (by simp) ?_; (case hd => rfl); (case hg => rfl); (case hr => exact zH89); (case hp => exact (Reps.none _ _)); intro v194 w21 ho22 hb hg_ hnew_; clear hg_ hnew_; (first | rw [← Ny193.out] at ho22 | (simp only [Int.reduceToNat] at ho22; rw [← Ny193.out] at ho22)); have n_ := zA_ (za (zag ho22 (zs zK135))) (zA_ (za (zq (g := gb181) (o := .cells #[.int .i64 0, .int .i64 0, .int .i64 0, .slice none 0 0] 30 (0, 0)) (by (with_reducible repeat (first | refine zd ?_ _ | refine zg ?_ | refine zb ?_ _)); refine zv ?_ NB181_192.out _; (with_reducible repeat (first | refine zd ?_ _ | refine zg ?_ | refine zb ?_ _)); refine zv ?_ NB181_192.out _; (with_reducible repeat (first | refine zd ?_ _ | refine zg ?_ | refine zb ?_ _)); refine zv ?_ NB181_192.out _; (with_reducible repeat (first | refine zd ?_ _ | refine zg ?_ | refine zb ?_ _)); refine zv ?_ NB181_192.out _; (with_reducible repeat (first | refine zd ?_ _ | refine zg ?_ | refine zb ?_ _)); exact BK181.out) hb)) (zA_ (za (zq (g := gb192) (o := .cells #[.int .i64 0, .int .i64 a0, .int .i64 0, .slice none 0 0] 30 (0, 0)) (by (with_reducible repeat (first | refine zd ?_ _ | refine zg ?_ | refine zb ?_ _)); refine zu (cs := #[.int .i64 0, .int .i64 a0, .int .i64 0, .slice none 0 0]) ?_ 3 _ rfl; (with_reducible repeat (first | refine zd ?_ _ | refine zg ?_ | refine zb ?_ _)); refine zu (cs := #[.int .i64 0, .int .i64 a0, .int .i64 0, .slice none 0 0]) ?_ 2 _ rfl; (with_reducible repeat (first | refine zd ?_ _ | refine zg ?_ | refine zb ?_ _)); refine zu (cs := #[.int .i64 0, .int .i64 0, .int .i64 0, .slice none 0 0]) ?_ 1 _ rfl; (with_reducible repeat (first | refine zd ?_ _ | refine zg ?_ | refine zb ?_ _)); refine zu (cs := #[.int .i64 0, .int .i64 0, .int .i64 0, .slice none 0 0]) ?_ 0 _ rfl; (with_reducible repeat (first | refine zd ?_ _ | refine zg ?_ | refine zb ?_ _)); exact BK192.out) hb)) (za (zt zK135 hb)))); clear BK181 BK192 HB; obtain ⟨HO195, BK181, BK192, HB⟩ := n_; clear hb ho22))
 go_loopg [8, 9] k (fun kq v8 v9 w' => ∃ (x8_1 : List (S34)) (x9_1 : Int) (x193000_1 : Int) (x193001_1 : Int) (x193002_1 : Int) (x193003_1 : List (S36)) (u193003 : Value), v9 = .int .i64 x9_1 ∧ Aside0 (spec_CartRun.l0 kq l1 x8_1 x9_1 x193000_1 x193001_1 x193002_1 x193003_1 = some (r1, r2, r3, r4, r5, r6)) ∧ Aside0 (kq ≤ k) ∧ Aside0 (Kd.R k34 34 w' w.heap.size (fun _ => True) v8 x8_1) ∧ Aside0 (Kd.R k36 36 w' w.heap.size (fun _ => True) u193003 x193003_1) ∧ Aside0 (w'.heap[gb181]? = some (.cells #[.int .i64 0, .int .i64 0, .int .i64 0, (.slice none 0 0)] 30 (0, 0))) ∧ Aside0 (w'.heap[gb192]? = some (.cells #[.int .i64 x193000_1, .int .i64 x193001_1, .int .i64 x193002_1, u193003] 30 (0, 0))) ∧ Aside0 (Below w.heap.size w w'))
 case atStart => exact ⟨(y193), (0), (0), (a0), (0), (([] : List (S36))), (.slice none 0 0), zG87, H', ⟨Nat.le_refl _⟩, ⟨by (with_reducible repeat (first | apply zm | apply zl | apply zn)); exact HO195.out⟩, ⟨zH54⟩, ⟨by (with_reducible repeat (first | refine zd ?_ _ | refine zg ?_ | refine zb ?_ _)); exact BK181.out⟩, ⟨by (with_reducible repeat (first | refine zd ?_ _ | refine zg ?_ | refine zb ?_ _)); exact BK192.out⟩, ⟨zH32⟩⟩
 case round =>
  clear H'
  try clear c1
  try clear c3
  try clear c3b0
  try clear c3b1
  try clear c9
  try clear c10
  try clear c10b0
  try clear c10b1
  try clear hcz15_0
  try clear hcz15_1
  try clear hcz15_2
  try clear hcz15_3
  try clear hcz20_0
  try clear hcz20_1
  try clear hcz20_2
  try clear hcz20_3
  try clear hcz7_0
  try clear hcz7_1
  try clear hcz7_2
  try clear hcz7_3
  try clear hfz15_0
  try clear hfz15_1
  try clear hfz15_2
  try clear hfz15_3
  try clear hfz20_0
  try clear hfz20_1
  try clear hfz20_2
  try clear hfz20_3
  try clear hfz7_0
  try clear hfz7_1
  try clear hfz7_2
  try clear hfz7_3
  obtain ⟨x8_1, x9_1, x193000_1, x193001_1, x193002_1, x193003_1, u193003, rfl, HA, HK1, HO_8, HO_193003, BK181, BK192, HB⟩ := hrel
  cases gk with
  | zero => exact absurd HA.out (by simp [spec_CartRun.l0])
  | succ k1 =>
   have H := HA.out
   clear HA
   simp only [spec_CartRun.l0] at H
   by_cases c23 : x9_1 < (l1.length : Int)
   rotate_left
   ·rw [if_neg c23] at H
    have c23b0 := decide_eq_false c23
    clear c23
    simp only [Option.some.injEq, Prod.mk.injEq] at H
    obtain ⟨rfl, rfl, rfl, rfl, rfl, rfl⟩ := H
    try go_wp2
    obtain ⟨n0_, n1_, n2_, n3_, n4_⟩ := zD5 (zn HO_8.out) (zn HO_193003.out) (zg BK181.out) (zg BK192.out) (zi HB.out)
    clear HO_8 HO_193003 BK181 BK192 HB
    have HO_8 := n0_
    have HO_193003 := n1_
    have BK181 := n2_
    have BK192 := n3_
    have HB := n4_
    clear n0_ n1_ n2_ n3_ n4_
    obtain ⟨Ao47, co47, eo47⟩ := zaa HO_193003.out
    (first | subst eo47 | (injection eo47 with f1_ f2_ f3_; have f4_ := f1_.symm; have f5_ := f3_.symm; clear f1_ f2_ f3_; subst f4_; subst f5_))
    refine start_ (n := 5) (S := fun w' => w'.cell? ⟨gb192, 0, none⟩ = some (.int .i64 x193000_1) ∧ w'.cell? ⟨gb192, 1, none⟩ = some (.int .i64 x193001_1) ∧ w'.cell? ⟨gb192, 2, none⟩ = some (.int .i64 x193002_1) ∧ w'.cell? ⟨gb192, 3, none⟩ = some (.slice Ao47 x193003_1.length co47)) (ds := []) #[false, false, false, false, false] zG88 rfl rfl ⟨(zc BK192.out 0).trans rfl, (zc BK192.out 1).trans rfl, (zc BK192.out 2).trans rfl, (zc BK192.out 3).trans rfl⟩ (fun hHeld => ?_)
    generalize wr.drew = w43 at HO_8 HO_193003 BK181 BK192 HB hHeld ⊢
    refine pure_ (i := 0) (N := some 53) (v := ?_) (a' := ?_) #[true, false, false, false, false] rfl rfl zG88 (fun _ _ _ h => h) (Or.inl ⟨by rfl, ?_⟩) ?_ ?_
    rotate_left
    ·intro w'
     go_simp
     with_reducible rfl
    rotate_left
    ·simp only [Act.put, List.setIfInBounds_toArray, List.set_cons_zero, List.set_cons_succ, i64_w, i32_w]
     rfl
    refine pure_ (i := 2) (N := some 4) (v := ?_) (a' := ?_) #[true, false, true, false, false] rfl rfl zG88 (fun _ _ _ h => h) (Or.inl ⟨by rfl, ?_⟩) ?_ ?_
    rotate_left
    ·intro w'
     go_simp
     with_reducible rfl
    rotate_left
    ·simp only [Act.put, List.setIfInBounds_toArray, List.set_cons_zero, List.set_cons_succ, i64_w, i32_w]
     rfl
    refine take_ (i := 1) (N := some 54) (v := ?_) (a' := ?_) #[true, true, true, false, false] rfl rfl zG88 (fun _ _ _ h => h) (Or.inl ⟨by rfl, ?_⟩) hHeld ?_ ?_
    rotate_left
    ·rintro w' ⟨s0, s1, s2, s3⟩
     go_simp
     with_reducible rfl
    rotate_left
    ·simp only [Act.put, List.setIfInBounds_toArray, List.set_cons_zero, List.set_cons_succ, i64_w, i32_w]
     rfl
    refine one_ (i := 3) (N := none) #[true, true, true, true, false] rfl rfl zG88 zG89 (fun K hK => ?_)
    have hs44 : w43.cell? ⟨gb181, 0, none⟩ = some (.int .i64 0) := (zc BK181.out 0).trans rfl
    have hfs44 := ze BK181.out 0
    have hns44_1 := NB192_181.out
    have hms44_1 := NB181_192.out
    have hs45 : w43.cell? ⟨gb181, 1, none⟩ = some (.int .i64 0) := (zc BK181.out 1).trans rfl
    have hfs45 := ze BK181.out 1
    have hns45_1 := NB192_181.out
    have hms45_1 := NB181_192.out
    have hs46 : w43.cell? ⟨gb181, 2, none⟩ = some (.int .i64 0) := (zc BK181.out 2).trans rfl
    have hfs46 := ze BK181.out 2
    have hns46_1 := NB192_181.out
    have hms46_1 := NB181_192.out
    have hs48 : w43.cell? ⟨gb181, 3, none⟩ = some (.slice none 0 0) := (zc BK181.out 3).trans rfl
    have hfs48 := ze BK181.out 3
    have hns48_1 := NB192_181.out
    have hms48_1 := NB181_192.out
    refine skip_ (w1 := ?_) (by rfl) rfl ?_ ?_
    rotate_left
    ·go_simp
     rfl
    refine hK.out _ _ ⟨((cell_far (p := ⟨gb181, _, none⟩) NB192_181.out _).trans (((cell_far (p := ⟨gb181, _, none⟩) NB192_181.out _).trans (((cell_far (p := ⟨gb181, _, none⟩) NB192_181.out _).trans (((cell_far (p := ⟨gb181, _, none⟩) NB192_181.out _).trans (hHeld.1)))))))), ((cell_far (p := ⟨gb181, _, none⟩) NB192_181.out _).trans (((cell_far (p := ⟨gb181, _, none⟩) NB192_181.out _).trans (((cell_far (p := ⟨gb181, _, none⟩) NB192_181.out _).trans (((cell_far (p := ⟨gb181, _, none⟩) NB192_181.out _).trans (hHeld.2.1)))))))), ((cell_far (p := ⟨gb181, _, none⟩) NB192_181.out _).trans (((cell_far (p := ⟨gb181, _, none⟩) NB192_181.out _).trans (((cell_far (p := ⟨gb181, _, none⟩) NB192_181.out _).trans (((cell_far (p := ⟨gb181, _, none⟩) NB192_181.out _).trans (hHeld.2.2.1)))))))), ((cell_far (p := ⟨gb181, _, none⟩) NB192_181.out _).trans (((cell_far (p := ⟨gb181, _, none⟩) NB192_181.out _).trans (((cell_far (p := ⟨gb181, _, none⟩) NB192_181.out _).trans (((cell_far (p := ⟨gb181, _, none⟩) NB192_181.out _).trans (hHeld.2.2.2))))))))⟩ (fun hHeld => ?_)
    clear hK K
    refine pure_ (i := 4) (N := some 6) (v := ?_) (a' := ?_) #[true, true, true, true, true] rfl rfl zG88 (fun _ _ _ h => h) (Or.inl ⟨by rfl, ?_⟩) ?_ ?_
    rotate_left
    ·intro w'
     go_simp
     with_reducible rfl
    rotate_left
    ·simp only [Act.put, List.setIfInBounds_toArray, List.set_cons_zero, List.set_cons_succ, i64_w, i32_w]
     rfl
    refine done_ zG88 ?_
    try go_wp2
    refine bodyPost_ret (results_list (rs := [.tmp 4, .cell 5 30, .tmp 6]) rfl (by simp) (.tmp (.cell gb181 30 #[.int .i64 x193000_1, .int .i64 x193001_1, .int .i64 x193002_1, .slice Ao47 x193003_1.length co47] (0, 0) _ rfl (by (with_reducible repeat (first | refine zd ?_ _ | refine zg ?_ | refine zb ?_ _)); refine zu (cs := #[.int .i64 x193000_1, .int .i64 x193001_1, .int .i64 x193002_1, .slice none 0 0]) ?_ 3 _ rfl; (with_reducible repeat (first | refine zd ?_ _ | refine zg ?_ | refine zb ?_ _)); refine zu (cs := #[.int .i64 x193000_1, .int .i64 x193001_1, .int .i64 0, .slice none 0 0]) ?_ 2 _ rfl; (with_reducible repeat (first | refine zd ?_ _ | refine zg ?_ | refine zb ?_ _)); refine zu (cs := #[.int .i64 x193000_1, .int .i64 0, .int .i64 0, .slice none 0 0]) ?_ 1 _ rfl; (with_reducible repeat (first | refine zd ?_ _ | refine zg ?_ | refine zb ?_ _)); refine zu (cs := #[.int .i64 0, .int .i64 0, .int .i64 0, .slice none 0 0]) ?_ 0 _ rfl; (with_reducible repeat (first | refine zd ?_ _ | refine zg ?_ | refine zb ?_ _)); exact BK181.out) Try.underlying30 rfl zG88 (.tmp .nil)))) rfl ?_
    exact ⟨_, _, zH78, by (with_reducible repeat (first | apply zm | apply zl | apply zn)); exact zr (zo (p := ⟨gb181, 3, none⟩) (zo (p := ⟨gb181, 2, none⟩) (zo (p := ⟨gb181, 1, none⟩) (zo (p := ⟨gb181, 0, none⟩) (zw HO_8.out BK181.out zG89) (fun _ hk => hk.2) (.int .i64 x193000_1)) (fun _ hk => hk.2) (.int .i64 x193001_1)) (fun _ hk => hk.2) (.int .i64 x193002_1)) (fun _ hk => hk.2) (.slice Ao47 x193003_1.length co47)) (fun _ hk => trivial), by (with_reducible repeat (first | apply zm | apply zl | apply zn)); exact zr (zo (p := ⟨gb181, 3, none⟩) (zo (p := ⟨gb181, 2, none⟩) (zo (p := ⟨gb181, 1, none⟩) (zo (p := ⟨gb181, 0, none⟩) (zw HO_193003.out BK181.out zG89) (fun _ hk => hk.2) (.int .i64 x193000_1)) (fun _ hk => hk.2) (.int .i64 x193001_1)) (fun _ hk => hk.2) (.int .i64 x193002_1)) (fun _ hk => hk.2) (.slice Ao47 x193003_1.length co47)) (fun _ hk => trivial), zH32⟩
   rw [if_pos c23] at H
   have c23b0 := decide_eq_true c23
   clear c23
   by_cases c24 : 0 ≤ x9_1
   rotate_left
   ·rw [if_neg c24] at H
    exact absurd H (by simp)
   rw [if_pos c24] at H
   have c24b0 := decide_eq_true c24
   clear c24
   replace H := Option.bind_eq_some_iff.mp H
   obtain ⟨⟨t197, t198, t199, t200, t203⟩, A250, H⟩ := H
   replace H : (if x8_1.length < 8796093022208 then (spec_CartRun.l0 k1 l1 (x8_1 ++ [(⟨t203, t198⟩ : S34)]) (wrap64 (x9_1 + 1)) t197 t198 t199 t200) else (none)) = some (r1, r2, r3, r4, r5, r6) := H
   have A25 := za A250
   clear A250
   by_cases c26 : x8_1.length < 8796093022208
   rotate_left
   ·rw [if_neg c26] at H
    exact absurd H (by simp)
   rw [if_pos c26] at H
   have LMc26 := za c26
   clear c26
   obtain ⟨y205, hy205⟩ : ∃ y_ : List (S34), y_ = (x8_1 ++ [(⟨t203, t198⟩ : S34)]) := ⟨_, rfl⟩
   replace H : (spec_CartRun.l0 k1 l1 y205 (wrap64 (x9_1 + 1)) t197 t198 t199 t200) = some (r1, r2, r3, r4, r5, r6) := by first | (rw [hy205]; with_reducible exact H) | (have H2_ := (Option.bind_some _ _).symm.trans H; rw [hy205]; with_reducible exact H2_) | (have H2_ := (Option.bind_some _ _).symm.trans H; with_reducible exact H2_) | with_reducible exact H | (rw [hy205]; exact H) | exact H
   have Ny205 := za hy205
   clear hy205
   have H' := za H
   clear H
   obtain ⟨Ao27, co27, eo27⟩ := zaa HO_193003.out
   subst eo27
   try go_wp2
   obtain ⟨n0_, n1_, n2_, n3_, n4_⟩ := zD5 (zn HO_8.out) (zn HO_193003.out) (zg BK181.out) (zg BK192.out) (zi HB.out)
   clear HO_8 HO_193003 BK181 BK192 HB
   have HO_8 := n0_
   have HO_193003 := n1_
   have BK181 := n2_
   have BK192 := n3_
   have HB := n4_
   clear n0_ n1_ n2_ n3_ n4_
   have p196 : 0 ≤ (x9_1 : Int) := zO
   have q196 : x9_1 < (l1.length : Int) := zO
   obtain ⟨ad196, e196, hx196_0, hx196_1, hx196_2, hx196_3⟩ := at_T54 HR1.out x9_1 p196 q196
   have hw196_3 := hx196_3
   have hw196_2 := hx196_2
   have hw196_1 := hx196_1
   have hw196_0 := hx196_0
   cases e196
   replace hx196_0 := (HB.out.cell (zj w _ hx196_0)).trans hx196_0
   replace hx196_1 := (HB.out.cell (zj w _ hx196_1)).trans hx196_1
   replace hx196_2 := (HB.out.cell (zj w _ hx196_2)).trans hx196_2
   replace hx196_3 := (HB.out.cell (zj w _ hx196_3)).trans hx196_3
   replace p196 := eq_true p196
   replace q196 := eq_true q196
   refine start_ (n := 12) (S := fun w' => w'.cell? ⟨gb192, 0, none⟩ = some (.int .i64 x193000_1) ∧ w'.cell? ⟨gb192, 1, none⟩ = some (.int .i64 x193001_1) ∧ w'.cell? ⟨gb192, 2, none⟩ = some (.int .i64 x193002_1) ∧ w'.cell? ⟨gb192, 3, none⟩ = some (.slice Ao27 x193003_1.length co27) ∧ w'.cell? (ad196.add ((x9_1).toNat * 4)) = some (.int .i64 ((rd_T54 l1 x9_1).f0)) ∧ w'.cell? ⟨(ad196.add ((x9_1).toNat * 4)).block, (ad196.add ((x9_1).toNat * 4)).off + 1, none⟩ = some (.int .i64 ((rd_T54 l1 x9_1).f1)) ∧ w'.cell? ⟨(ad196.add ((x9_1).toNat * 4)).block, (ad196.add ((x9_1).toNat * 4)).off + 2, none⟩ = some (.int .i64 ((rd_T54 l1 x9_1).f2)) ∧ w'.cell? ⟨(ad196.add ((x9_1).toNat * 4)).block, (ad196.add ((x9_1).toNat * 4)).off + 3, none⟩ = some (.int .i64 ((rd_T54 l1 x9_1).f3))) (ds := []) #[false, false, false, false, false, false, false, false, false, false, false, false] zG88 rfl rfl ⟨(zc BK192.out 0).trans rfl, (zc BK192.out 1).trans rfl, (zc BK192.out 2).trans rfl, (zc BK192.out 3).trans rfl, ((HB.out.cell (zj w _ hw196_0)).trans hw196_0), ((HB.out.cell (zj w _ hw196_1)).trans hw196_1), ((HB.out.cell (zj w _ hw196_2)).trans hw196_2), ((HB.out.cell (zj w _ hw196_3)).trans hw196_3)⟩ (fun hHeld => ?_); refine with_tabW spec_CartRun.tab12 spec_CartRun.bits12 (fun HT_ HW_ => ?_)
   generalize wr.drew = w28 at HO_8 HO_193003 BK181 BK192 HB hx196_0 hx196_1 hx196_2 hx196_3 hHeld ⊢
   refine zP 1 38 #[false, true, false, false, false, false, false, false, false, false, false, false] HT_ ?_
   refine zP 2 39 #[false, true, true, false, false, false, false, false, false, false, false, false] HT_ ?_
   refine zP 3 40 #[false, true, true, true, false, false, false, false, false, false, false, false] HT_ ?_
   refine zQ 0 37 #[true, true, true, true, false, false, false, false, false, false, false, false] HT_ HW_ hHeld ?_
   refine zQ 4 41 #[true, true, true, true, true, false, false, false, false, false, false, false] HT_ HW_ hHeld ?_
   refine join_ (σ := Value × Nat) 2 b5A0 (fun s_ => [(42, .tuple #[.agg #[.int .i64 t197, .int .i64 t198, .int .i64 t199, s_.1], .int .i64 t203]), (10, .pointer (some ⟨s_.2, 0, none⟩)), (36, .tuple #[.agg #[.int .i64 t197, .int .i64 t198, .int .i64 t199, s_.1], .int .i64 t203]), (43, .agg #[.int .i64 t197, .int .i64 t198, .int .i64 t199, s_.1]), (44, .int .i64 t203)]) (fun s_ w' => (w'.cell? ⟨gb192, 0, none⟩ = some (.int .i64 x193000_1) ∧ w'.cell? ⟨gb192, 1, none⟩ = some (.int .i64 x193001_1) ∧ w'.cell? ⟨gb192, 2, none⟩ = some (.int .i64 x193002_1) ∧ w'.cell? ⟨gb192, 3, none⟩ = some (.slice Ao27 x193003_1.length co27) ∧ w'.cell? (ad196.add ((x9_1).toNat * 4)) = some (.int .i64 ((rd_T54 l1 x9_1).f0)) ∧ w'.cell? ⟨(ad196.add ((x9_1).toNat * 4)).block, (ad196.add ((x9_1).toNat * 4)).off + 1, none⟩ = some (.int .i64 ((rd_T54 l1 x9_1).f1)) ∧ w'.cell? ⟨(ad196.add ((x9_1).toNat * 4)).block, (ad196.add ((x9_1).toNat * 4)).off + 2, none⟩ = some (.int .i64 ((rd_T54 l1 x9_1).f2)) ∧ w'.cell? ⟨(ad196.add ((x9_1).toNat * 4)).block, (ad196.add ((x9_1).toNat * 4)).off + 3, none⟩ = some (.int .i64 ((rd_T54 l1 x9_1).f3))) ∧ (Kd.R k36 36 w' w.heap.size (fun _ => True) s_.1 t200) ∧ (Kd.R k34 34 w' w.heap.size (fun _ => True) u8 x8_1) ∧ (w'.heap[gb181]? = some (.cells #[.int .i64 0, .int .i64 0, .int .i64 0, .slice none 0 0] 30 (0, 0))) ∧ (w'.heap[gb192]? = some (.cells #[.int .i64 x193000_1, .int .i64 x193001_1, .int .i64 x193002_1, .slice Ao27 x193003_1.length co27] 30 (0, 0))) ∧ (w'.heap[s_.2]? = some (.cells #[.int .i64 0, .int .i64 0, .int .i64 0, .slice none 0 0] 30 (0, 0))) ∧ (w.heap.size ≤ s_.2) ∧ (w.heap.size ≤ s_.2) ∧ (gb181 ≠ s_.2) ∧ (s_.2 ≠ gb181) ∧ (gb192 ≠ s_.2) ∧ (s_.2 ≠ gb192) ∧ (Below w.heap.size w w')) ?_ ?_
   rotate_left
   ·intro hCont
    refine two_ (i := 5) (j := 9) (Ni := some 42) (Nj := some 10) #[true, true, true, true, true, true, false, false, false, false, false, false] #[true, true, true, true, true, false, false, false, false, true, false, false] rfl rfl rfl rfl (two_of HT_.out zG88) zG89 zG89 (fun K hK => ?_) (fun K hK => ?_)
    ·skip
     refine goes_ Try.func26 zG88 rfl #[.agg #[.int .i64 x193000_1, .int .i64 x193001_1, .int .i64 x193002_1, .slice Ao27 x193003_1.length co27], .agg #[.int .i64 ((rd_T54 l1 x9_1).f0), .int .i64 ((rd_T54 l1 x9_1).f1), .int .i64 ((rd_T54 l1 x9_1).f2), .int .i64 ((rd_T54 l1 x9_1).f3)]] (by rfl) rfl rfl zG63 ?_
     with_reducible refine (spec_l23Act.calls k1 x193000_1 x193001_1 x193002_1 (fun k_ => some k_ = (.slice Ao27 x193003_1.length co27 : Value).ownBlock) (.slice Ao27 x193003_1.length co27) x193003_1 ((rd_T54 l1 x9_1).f0) ((rd_T54 l1 x9_1).f1) ((rd_T54 l1 x9_1).f2) ((rd_T54 l1 x9_1).f3) t197 t198 t199 t200 t203 w _ ?side1 ?side2 A25.out).mono ?_
     (case side1 => repeat (first | (with_reducible first | exact HB.out | apply zk | apply zf | apply zi | refine zh ?_ GE181.out | refine zh ?_ GE192.out) | exact HB.out))
     (case side2 => exact zar rfl HO_193003.out)
     rintro e w29 ⟨v201, rfl, ho0, hb, hkp⟩
     refine ⟨_, rfl, ?_⟩
     obtain ⟨n0_, n1_, n2_, n3_, n4_⟩ := zD5 (zr (ok' := fun k_ => True) (zae ((zai HO_8.out (zah HO_193003.out) zG89)) hkp (fun k_ hk_ hs_ => (hk_.2) hs_)) (fun k_ hk_ => trivial)) (zad zG73 hkp (fun hs_ => (fun e_ => (zac HO_193003.out BK181.out zG89) e_) hs_)) (zad zK152 hkp (fun hs_ => (fun e_ => (zac HO_193003.out BK192.out zG89) e_) hs_)) (zr (ok' := fun k_ => True) ho0 (fun k_ hk_ => trivial)) (hb)
     clear HO_8 BK181 BK192 HB HO_193003
     have HO_8 := n0_
     have BK181 := n1_
     have BK192 := n2_
     have HO202 := n3_
     have HB := n4_
     clear n0_ n1_ n2_ n3_ n4_
     (try clear hb)
     (try clear hkp)
     (try clear ho0)
     refine hK.out _ _ ⟨(zc BK192.out 0).trans rfl, (zc BK192.out 1).trans rfl, (zc BK192.out 2).trans rfl, (zc BK192.out 3).trans rfl, ((HB.out.cell (zj w _ hw196_0)).trans hw196_0), ((HB.out.cell (zj w _ hw196_1)).trans hw196_1), ((HB.out.cell (zj w _ hw196_2)).trans hw196_2), ((HB.out.cell (zj w _ hw196_3)).trans hw196_3)⟩ (fun hHeld => ?_)
     clear hK K
     refine norm_ (a' := ?_) ?_ ?_
     rotate_left
     ·show Act.put _ (some 42) _ = _
      simp only [Act.put, List.setIfInBounds_toArray, List.set_cons_zero, List.set_cons_succ, i64_w, i32_w]
      rfl
     refine zP 6 36 #[true, true, true, true, true, true, true, false, false, false, false, false] HT_ ?_
     refine zP 7 43 #[true, true, true, true, true, true, true, true, false, false, false, false] HT_ ?_
     refine zP 8 44 #[true, true, true, true, true, true, true, true, true, false, false, false] HT_ ?_
     refine one_ (i := 9) (N := some 10) b5A0 rfl rfl (one_of HT_.out zG88) zG89 (fun K hK => ?_)
     refine box_step ?hg (N := 10) ?hd (cs := #[.int .i64 0, .int .i64 0, .int .i64 0, .slice none 0 0]) (t := 30) ?hr ?_; (case hd => rfl); (case hg => rfl); (case hr => exact zH89)
     intro gb204 hg w30 hbox hb
     obtain ⟨n0_, n1_, n2_, n3_, n4_, n5_, n6_, n7_, n8_, n9_, n10_, n11_⟩ := zD12 (zp zK176 hb) (zp zK172 hb) (zq (g := gb181) (o := .cells #[.int .i64 0, .int .i64 0, .int .i64 0, .slice none 0 0] 30 (0, 0)) zG73 hb) (zq (g := gb192) (o := .cells #[.int .i64 x193000_1, .int .i64 x193001_1, .int .i64 x193002_1, .slice Ao27 x193003_1.length co27] 30 (0, 0)) zK152 hb) (zt zK135 hb) (hbox) ((by rw [hg]; exact (zs zK135) : w.heap.size ≤ gb204)) ((by rw [hg]; exact (zs zK135) : w.heap.size ≤ gb204)) ((by rw [hg]; exact Nat.ne_of_lt (zx (g := gb181) (o := .cells #[.int .i64 0, .int .i64 0, .int .i64 0, .slice none 0 0] 30 (0, 0)) zG73) : gb181 ≠ gb204)) ((by rw [hg]; exact Nat.ne_of_gt (zx (g := gb181) (o := .cells #[.int .i64 0, .int .i64 0, .int .i64 0, .slice none 0 0] 30 (0, 0)) zG73) : gb204 ≠ gb181)) ((by rw [hg]; exact Nat.ne_of_lt (zx (g := gb192) (o := .cells #[.int .i64 x193000_1, .int .i64 x193001_1, .int .i64 x193002_1, .slice Ao27 x193003_1.length co27] 30 (0, 0)) zK152) : gb192 ≠ gb204)) ((by rw [hg]; exact Nat.ne_of_gt (zx (g := gb192) (o := .cells #[.int .i64 x193000_1, .int .i64 x193001_1, .int .i64 x193002_1, .slice Ao27 x193003_1.length co27] 30 (0, 0)) zK152) : gb204 ≠ gb192))
     clear HO_8 HO202 BK181 BK192 HB
     have HO_8 := n0_
     have HO202 := n1_
     have BK181 := n2_
     have BK192 := n3_
     have HB := n4_
     have BK204 := n5_
     have GW204 := n6_
     have GE204 := n7_
     have NB181_204 := n8_
     have NB204_181 := n9_
     have NB192_204 := n10_
     have NB204_192 := n11_
     clear n0_ n1_ n2_ n3_ n4_ n5_ n6_ n7_ n8_ n9_ n10_ n11_
     clear hb hbox hg
     refine hK.out _ _ ⟨(zc BK192.out 0).trans rfl, (zc BK192.out 1).trans rfl, (zc BK192.out 2).trans rfl, (zc BK192.out 3).trans rfl, ((HB.out.cell (zj w _ hw196_0)).trans hw196_0), ((HB.out.cell (zj w _ hw196_1)).trans hw196_1), ((HB.out.cell (zj w _ hw196_2)).trans hw196_2), ((HB.out.cell (zj w _ hw196_3)).trans hw196_3)⟩ (fun hHeld => ?_)
     clear hK K
     refine norm_ (a' := ?_) ?_ ?_
     rotate_left
     ·show Act.put _ (some 10) _ = _
      simp only [Act.put, List.setIfInBounds_toArray, List.set_cons_zero, List.set_cons_succ, i64_w, i32_w]
      rfl
     exact norm_ zK159 (hCont (v201, gb204) _ ⟨hHeld, zK172, zK176, zG73, zK152, zK153, GW204.out, GE204.out, NB181_204.out, NB204_181.out, NB192_204.out, NB204_192.out, zK132⟩)
    ·skip
     refine box_step ?hg (N := 10) ?hd (cs := #[.int .i64 0, .int .i64 0, .int .i64 0, .slice none 0 0]) (t := 30) ?hr ?_; (case hd => rfl); (case hg => rfl); (case hr => exact zH89)
     intro gb204 hg w29 hbox hb
     obtain ⟨n0_, n1_, n2_, n3_, n4_, n5_, n6_, n7_, n8_, n9_, n10_, n11_⟩ := zD12 (zp zK176 hb) (zp (by (with_reducible repeat (first | apply zm | apply zl | apply zn)); exact HO_193003.out) hb) (zq (g := gb181) (o := .cells #[.int .i64 0, .int .i64 0, .int .i64 0, .slice none 0 0] 30 (0, 0)) zG73 hb) (zq (g := gb192) (o := .cells #[.int .i64 x193000_1, .int .i64 x193001_1, .int .i64 x193002_1, .slice Ao27 x193003_1.length co27] 30 (0, 0)) zK152 hb) (zt zK135 hb) (hbox) ((by rw [hg]; exact (zs zK135) : w.heap.size ≤ gb204)) ((by rw [hg]; exact (zs zK135) : w.heap.size ≤ gb204)) ((by rw [hg]; exact Nat.ne_of_lt (zx (g := gb181) (o := .cells #[.int .i64 0, .int .i64 0, .int .i64 0, .slice none 0 0] 30 (0, 0)) zG73) : gb181 ≠ gb204)) ((by rw [hg]; exact Nat.ne_of_gt (zx (g := gb181) (o := .cells #[.int .i64 0, .int .i64 0, .int .i64 0, .slice none 0 0] 30 (0, 0)) zG73) : gb204 ≠ gb181)) ((by rw [hg]; exact Nat.ne_of_lt (zx (g := gb192) (o := .cells #[.int .i64 x193000_1, .int .i64 x193001_1, .int .i64 x193002_1, .slice Ao27 x193003_1.length co27] 30 (0, 0)) zK152) : gb192 ≠ gb204)) ((by rw [hg]; exact Nat.ne_of_gt (zx (g := gb192) (o := .cells #[.int .i64 x193000_1, .int .i64 x193001_1, .int .i64 x193002_1, .slice Ao27 x193003_1.length co27] 30 (0, 0)) zK152) : gb204 ≠ gb192))
     clear HO_8 HO_193003 BK181 BK192 HB
     have HO_8 := n0_
     have HO_193003 := n1_
     have BK181 := n2_
     have BK192 := n3_
     have HB := n4_
     have BK204 := n5_
     have GW204 := n6_
     have GE204 := n7_
     have NB181_204 := n8_
     have NB204_181 := n9_
     have NB192_204 := n10_
     have NB204_192 := n11_
     clear n0_ n1_ n2_ n3_ n4_ n5_ n6_ n7_ n8_ n9_ n10_ n11_
     clear hb hbox hg
     refine hK.out _ _ ⟨(zc BK192.out 0).trans rfl, (zc BK192.out 1).trans rfl, (zc BK192.out 2).trans rfl, (zc BK192.out 3).trans rfl, ((HB.out.cell (zj w _ hw196_0)).trans hw196_0), ((HB.out.cell (zj w _ hw196_1)).trans hw196_1), ((HB.out.cell (zj w _ hw196_2)).trans hw196_2), ((HB.out.cell (zj w _ hw196_3)).trans hw196_3)⟩ (fun hHeld => ?_)
     clear hK K
     refine norm_ (a' := ?_) ?_ ?_
     rotate_left
     ·show Act.put _ (some 10) _ = _
      simp only [Act.put, List.setIfInBounds_toArray, List.set_cons_zero, List.set_cons_succ, i64_w, i32_w]
      rfl
     refine one_ (i := 5) (N := some 42) #[true, true, true, true, true, true, false, false, false, true, false, false] rfl rfl (one_of HT_.out zG88) zG89 (fun K hK => ?_)
     refine goes_ Try.func26 zG88 rfl #[.agg #[.int .i64 x193000_1, .int .i64 x193001_1, .int .i64 x193002_1, .slice Ao27 x193003_1.length co27], .agg #[.int .i64 ((rd_T54 l1 x9_1).f0), .int .i64 ((rd_T54 l1 x9_1).f1), .int .i64 ((rd_T54 l1 x9_1).f2), .int .i64 ((rd_T54 l1 x9_1).f3)]] (by rfl) rfl rfl zG63 ?_
     with_reducible refine (spec_l23Act.calls k1 x193000_1 x193001_1 x193002_1 (fun k_ => some k_ = (.slice Ao27 x193003_1.length co27 : Value).ownBlock) (.slice Ao27 x193003_1.length co27) x193003_1 ((rd_T54 l1 x9_1).f0) ((rd_T54 l1 x9_1).f1) ((rd_T54 l1 x9_1).f2) ((rd_T54 l1 x9_1).f3) t197 t198 t199 t200 t203 w _ ?side1 ?side2 A25.out).mono ?_
     (case side1 => repeat (first | (with_reducible first | exact HB.out | apply zk | apply zf | apply zi | refine zh ?_ GE181.out | refine zh ?_ GE192.out | refine zh ?_ GE204.out) | exact HB.out))
     (case side2 => exact zar rfl HO_193003.out)
     rintro e w30 ⟨v201, rfl, ho0, hb, hkp⟩
     refine ⟨_, rfl, ?_⟩
     obtain ⟨n0_, n1_, n2_, n3_, n4_, n5_⟩ := zD6 (zr (ok' := fun k_ => True) (zae ((zai HO_8.out (zah HO_193003.out) zG89)) hkp (fun k_ hk_ hs_ => (hk_.2) hs_)) (fun k_ hk_ => trivial)) (zad zG73 hkp (fun hs_ => (fun e_ => (zac HO_193003.out BK181.out zG89) e_) hs_)) (zad zK152 hkp (fun hs_ => (fun e_ => (zac HO_193003.out BK192.out zG89) e_) hs_)) (zad zK153 hkp (fun hs_ => (fun e_ => (zac HO_193003.out BK204.out zG89) e_) hs_)) (zr (ok' := fun k_ => True) ho0 (fun k_ hk_ => trivial)) (hb)
     clear HO_8 BK181 BK192 BK204 HB HO_193003
     have HO_8 := n0_
     have BK181 := n1_
     have BK192 := n2_
     have BK204 := n3_
     have HO202 := n4_
     have HB := n5_
     clear n0_ n1_ n2_ n3_ n4_ n5_
     (try clear hb)
     (try clear hkp)
     (try clear ho0)
     refine hK.out _ _ ⟨(zc BK192.out 0).trans rfl, (zc BK192.out 1).trans rfl, (zc BK192.out 2).trans rfl, (zc BK192.out 3).trans rfl, ((HB.out.cell (zj w _ hw196_0)).trans hw196_0), ((HB.out.cell (zj w _ hw196_1)).trans hw196_1), ((HB.out.cell (zj w _ hw196_2)).trans hw196_2), ((HB.out.cell (zj w _ hw196_3)).trans hw196_3)⟩ (fun hHeld => ?_)
     clear hK K
     refine norm_ (a' := ?_) ?_ ?_
     rotate_left
     ·show Act.put _ (some 42) _ = _
      simp only [Act.put, List.setIfInBounds_toArray, List.set_cons_zero, List.set_cons_succ, i64_w, i32_w]
      rfl
     refine zP 6 36 #[true, true, true, true, true, true, true, false, false, true, false, false] HT_ ?_
     refine zP 7 43 #[true, true, true, true, true, true, true, true, false, true, false, false] HT_ ?_
     refine zP 8 44 b5A0 HT_ ?_
     exact norm_ zK159 (hCont (v201, gb204) _ ⟨hHeld, zK172, zK176, zG73, zK152, zK153, GW204.out, GE204.out, NB181_204.out, NB204_181.out, NB192_204.out, NB204_192.out, zK132⟩)
   rintro ⟨v201, gb204⟩ w31 ⟨hS_, h0_, h1_, h2_, h3_, h4_, h5_, h6_, h7_, h8_, h9_, h10_, h11_⟩
   have n0_ : Aside0 (Kd.R k36 36 w31 w.heap.size (fun _ => True) v201 t200) := ⟨h0_⟩
   have n1_ : Aside0 (Kd.R k34 34 w31 w.heap.size (fun _ => True) u8 x8_1) := ⟨h1_⟩
   have n2_ : Aside0 (w31.heap[gb181]? = some (.cells #[.int .i64 0, .int .i64 0, .int .i64 0, .slice none 0 0] 30 (0, 0))) := ⟨h2_⟩
   have n3_ : Aside0 (w31.heap[gb192]? = some (.cells #[.int .i64 x193000_1, .int .i64 x193001_1, .int .i64 x193002_1, .slice Ao27 x193003_1.length co27] 30 (0, 0))) := ⟨h3_⟩
   have n4_ : Aside0 (w31.heap[gb204]? = some (.cells #[.int .i64 0, .int .i64 0, .int .i64 0, .slice none 0 0] 30 (0, 0))) := ⟨h4_⟩
   have n5_ : Aside0 (w.heap.size ≤ gb204) := ⟨h5_⟩
   have n6_ : Aside0 (w.heap.size ≤ gb204) := ⟨h6_⟩
   have n7_ : Aside0 (gb181 ≠ gb204) := ⟨h7_⟩
   have n8_ : Aside0 (gb204 ≠ gb181) := ⟨h8_⟩
   have n9_ : Aside0 (gb192 ≠ gb204) := ⟨h9_⟩
   have n10_ : Aside0 (gb204 ≠ gb192) := ⟨h10_⟩
   have n11_ : Aside0 (Below w.heap.size w w31) := ⟨h11_⟩
   clear HO_8
   clear HO_193003
   clear BK181
   clear BK192
   clear HB
   clear h0_ h1_ h2_ h3_ h4_ h5_ h6_ h7_ h8_ h9_ h10_ h11_
   have HO202 := n0_
   have HO_8 := n1_
   have BK181 := n2_
   have BK192 := n3_
   have BK204 := n4_
   have GW204 := n5_
   have GE204 := n6_
   have NB181_204 := n7_
   have NB204_181 := n8_
   have NB192_204 := n9_
   have NB204_192 := n10_
   have HB := n11_
   clear n0_ n1_ n2_ n3_ n4_ n5_ n6_ n7_ n8_ n9_ n10_ n11_
   have hHeld : w31.cell? ⟨gb192, 0, none⟩ = some (.int .i64 x193000_1) ∧ w31.cell? ⟨gb192, 1, none⟩ = some (.int .i64 x193001_1) ∧ w31.cell? ⟨gb192, 2, none⟩ = some (.int .i64 x193002_1) ∧ w31.cell? ⟨gb192, 3, none⟩ = some (.slice Ao27 x193003_1.length co27) ∧ w31.cell? (ad196.add ((x9_1).toNat * 4)) = some (.int .i64 ((rd_T54 l1 x9_1).f0)) ∧ w31.cell? ⟨(ad196.add ((x9_1).toNat * 4)).block, (ad196.add ((x9_1).toNat * 4)).off + 1, none⟩ = some (.int .i64 ((rd_T54 l1 x9_1).f1)) ∧ w31.cell? ⟨(ad196.add ((x9_1).toNat * 4)).block, (ad196.add ((x9_1).toNat * 4)).off + 2, none⟩ = some (.int .i64 ((rd_T54 l1 x9_1).f2)) ∧ w31.cell? ⟨(ad196.add ((x9_1).toNat * 4)).block, (ad196.add ((x9_1).toNat * 4)).off + 3, none⟩ = some (.int .i64 ((rd_T54 l1 x9_1).f3)) := hS_
   obtain ⟨Ao35, co35, eo35⟩ := zaa HO202.out
   (first | subst eo35 | (injection eo35 with f1_ f2_ f3_; have f4_ := f1_.symm; have f5_ := f3_.symm; clear f1_ f2_ f3_; subst f4_; subst f5_))
   refine norm_ (a' := ?_) ?_ ?_
   rotate_left
   ·simp only [putAll, Act.put, List.setIfInBounds_toArray, List.set_cons_zero, List.set_cons_succ]
    rfl
   refine one_ (i := 10) (N := none) #[true, true, true, true, true, true, true, true, true, true, true, false] rfl rfl (one_of HT_.out zG88) zG89 (fun K hK => ?_)
   have hs32 : w31.cell? ⟨gb204, 0, none⟩ = some (.int .i64 0) := (zc BK204.out 0).trans rfl
   have hfs32 := ze BK204.out 0
   have hns32_0 := NB181_204.out
   have hns32_1 := NB192_204.out
   have hms32_0 := NB204_181.out
   have hms32_1 := NB204_192.out
   have hs33 : w31.cell? ⟨gb204, 1, none⟩ = some (.int .i64 0) := (zc BK204.out 1).trans rfl
   have hfs33 := ze BK204.out 1
   have hns33_0 := NB181_204.out
   have hns33_1 := NB192_204.out
   have hms33_0 := NB204_181.out
   have hms33_1 := NB204_192.out
   have hs34 : w31.cell? ⟨gb204, 2, none⟩ = some (.int .i64 0) := (zc BK204.out 2).trans rfl
   have hfs34 := ze BK204.out 2
   have hns34_0 := NB181_204.out
   have hns34_1 := NB192_204.out
   have hms34_0 := NB204_181.out
   have hms34_1 := NB204_192.out
   have hs36 : w31.cell? ⟨gb204, 3, none⟩ = some (.slice none 0 0) := (zc BK204.out 3).trans rfl
   have hfs36 := ze BK204.out 3
   have hns36_0 := NB181_204.out
   have hns36_1 := NB192_204.out
   have hms36_0 := NB204_181.out
   have hms36_1 := NB204_192.out
   refine skip_ (w1 := ?_) (by rfl) rfl ?_ ?_
   rotate_left
   ·go_simp
    rfl
   refine hK.out _ _ ⟨((cell_far (p := ⟨gb204, _, none⟩) NB192_204.out _).trans (((cell_far (p := ⟨gb204, _, none⟩) NB192_204.out _).trans (((cell_far (p := ⟨gb204, _, none⟩) NB192_204.out _).trans (((cell_far (p := ⟨gb204, _, none⟩) NB192_204.out _).trans (hHeld.1)))))))), ((cell_far (p := ⟨gb204, _, none⟩) NB192_204.out _).trans (((cell_far (p := ⟨gb204, _, none⟩) NB192_204.out _).trans (((cell_far (p := ⟨gb204, _, none⟩) NB192_204.out _).trans (((cell_far (p := ⟨gb204, _, none⟩) NB192_204.out _).trans (hHeld.2.1)))))))), ((cell_far (p := ⟨gb204, _, none⟩) NB192_204.out _).trans (((cell_far (p := ⟨gb204, _, none⟩) NB192_204.out _).trans (((cell_far (p := ⟨gb204, _, none⟩) NB192_204.out _).trans (((cell_far (p := ⟨gb204, _, none⟩) NB192_204.out _).trans (hHeld.2.2.1)))))))), ((cell_far (p := ⟨gb204, _, none⟩) NB192_204.out _).trans (((cell_far (p := ⟨gb204, _, none⟩) NB192_204.out _).trans (((cell_far (p := ⟨gb204, _, none⟩) NB192_204.out _).trans (((cell_far (p := ⟨gb204, _, none⟩) NB192_204.out _).trans (hHeld.2.2.2.1)))))))), ((cell_far (p := ⟨gb204, _, none⟩) zK101 _).trans (((cell_far (p := ⟨gb204, _, none⟩) zK101 _).trans (((cell_far (p := ⟨gb204, _, none⟩) zK101 _).trans (((cell_far (p := ⟨gb204, _, none⟩) zK101 _).trans (hHeld.2.2.2.2.1)))))))), ((cell_far (p := ⟨gb204, _, none⟩) zK102 _).trans (((cell_far (p := ⟨gb204, _, none⟩) zK102 _).trans (((cell_far (p := ⟨gb204, _, none⟩) zK102 _).trans (((cell_far (p := ⟨gb204, _, none⟩) zK102 _).trans (hHeld.2.2.2.2.2.1)))))))), ((cell_far (p := ⟨gb204, _, none⟩) zK103 _).trans (((cell_far (p := ⟨gb204, _, none⟩) zK103 _).trans (((cell_far (p := ⟨gb204, _, none⟩) zK103 _).trans (((cell_far (p := ⟨gb204, _, none⟩) zK103 _).trans (hHeld.2.2.2.2.2.2.1)))))))), ((cell_far (p := ⟨gb204, _, none⟩) zK104 _).trans (((cell_far (p := ⟨gb204, _, none⟩) zK104 _).trans (((cell_far (p := ⟨gb204, _, none⟩) zK104 _).trans (((cell_far (p := ⟨gb204, _, none⟩) zK104 _).trans (hHeld.2.2.2.2.2.2.2))))))))⟩ (fun hHeld => ?_)
   clear hK K
   refine zP 11 11 #[true, true, true, true, true, true, true, true, true, true, true, true] HT_ ?_
   refine done_ (done_of HT_.out zG88) ?_
   have hnb37 := NB204_181.out
   have hnc37 := NB181_204.out
   have hnb38 := NB204_192.out
   have hnc38 := NB192_204.out
   obtain ⟨hcz39_0, hcz39_1, hcz39_2, hcz39_3, hfz39_0, hfz39_1, hfz39_2, hfz39_3⟩ := zB4 BK204.out
   have hnb40 := NB192_181.out
   have hnc40 := NB181_192.out
   obtain ⟨hcz41_0, hcz41_1, hcz41_2, hcz41_3, hfz41_0, hfz41_1, hfz41_2, hfz41_3⟩ := zB4 BK192.out
   try go_wp2_with (first | ((with_reducible refine gate_builtin (b := .append) (xs := #[.tmp 46, .tmp 51]) rfl ?_); at_builtin; refine zbd k34 (w0 := w) w.heap.size rfl (.tmp 46) (.tmp 51) 27 34 (.agg #[(.int .i64 0), (.int .i64 0)]) 16 rfl Try.underlying27 info34 rfl zG89 (by omega) u8 x8_1 (⟨t203, t198⟩ : S34) [.int .i64 t203, .int .i64 t198] (fun _ => True) (fun _ => False) rfl zK178 ?aP (fun _ hk => hk.elim) ?aF ?aO ?aB ?aS ?aL ?_; (case aP => exact k34_mkM _ _ _ (⟨t203, t198⟩ : S34)); (case aB => exact zK132); (case aF => exact (fun _ _ => trivial)); (case aO => exact (by (with_reducible repeat (first | apply zm | apply zl | apply zn)); exact zr (zo (p := ⟨gb192, 3, none⟩) (zo (p := ⟨gb192, 2, none⟩) (zo (p := ⟨gb192, 1, none⟩) (zo (p := ⟨gb192, 0, none⟩) (zo (p := ⟨gb204, 3, none⟩) (zo (p := ⟨gb204, 2, none⟩) (zo (p := ⟨gb204, 1, none⟩) (zo (p := ⟨gb204, 0, none⟩) (zw (zw HO_8.out BK204.out zG89) BK192.out zG89) (fun _ hk => hk.1.2) (.int .i64 t197)) (fun _ hk => hk.1.2) (.int .i64 t198)) (fun _ hk => hk.1.2) (.int .i64 t199)) (fun _ hk => hk.1.2) (.slice Ao35 t200.length co35)) (fun _ hk => hk.2) (.int .i64 t197)) (fun _ hk => hk.2) (.int .i64 t198)) (fun _ hk => hk.2) (.int .i64 t199)) (fun _ hk => hk.2) (.slice Ao35 t200.length co35)) (fun _ hk => trivial))); (case aS => exact (zs zK132)); (case aL => have := LMc26.out; omega); intro v206 w42 ho hb hg hat; rw [← Ny205.out] at ho; have n_ := zA_ (za (zaf (g := gb181) (o := .cells #[.int .i64 0, .int .i64 0, .int .i64 0, .slice none 0 0] 30 (0, 0)) (by (with_reducible repeat (first | refine zd ?_ _ | refine zg ?_ | refine zb ?_ _)); refine zv ?_ NB181_192.out _; (with_reducible repeat (first | refine zd ?_ _ | refine zg ?_ | refine zb ?_ _)); refine zv ?_ NB181_192.out _; (with_reducible repeat (first | refine zd ?_ _ | refine zg ?_ | refine zb ?_ _)); refine zv ?_ NB181_192.out _; (with_reducible repeat (first | refine zd ?_ _ | refine zg ?_ | refine zb ?_ _)); refine zv ?_ NB181_192.out _; (with_reducible repeat (first | refine zd ?_ _ | refine zg ?_ | refine zb ?_ _)); refine zv ?_ NB181_204.out _; (with_reducible repeat (first | refine zd ?_ _ | refine zg ?_ | refine zb ?_ _)); refine zv ?_ NB181_204.out _; (with_reducible repeat (first | refine zd ?_ _ | refine zg ?_ | refine zb ?_ _)); refine zv ?_ NB181_204.out _; (with_reducible repeat (first | refine zd ?_ _ | refine zg ?_ | refine zb ?_ _)); refine zv ?_ NB181_204.out _; (with_reducible repeat (first | refine zd ?_ _ | refine zg ?_ | refine zb ?_ _)); exact BK181.out) hg (zac HO_8.out BK181.out zG89))) (zA_ (za (zaf (g := gb192) (o := .cells #[.int .i64 t197, .int .i64 t198, .int .i64 t199, .slice Ao35 t200.length co35] 30 (0, 0)) (by (with_reducible repeat (first | refine zd ?_ _ | refine zg ?_ | refine zb ?_ _)); refine zu (cs := #[.int .i64 t197, .int .i64 t198, .int .i64 t199, .slice Ao27 x193003_1.length co27]) ?_ 3 _ rfl; (with_reducible repeat (first | refine zd ?_ _ | refine zg ?_ | refine zb ?_ _)); refine zu (cs := #[.int .i64 t197, .int .i64 t198, .int .i64 x193002_1, .slice Ao27 x193003_1.length co27]) ?_ 2 _ rfl; (with_reducible repeat (first | refine zd ?_ _ | refine zg ?_ | refine zb ?_ _)); refine zu (cs := #[.int .i64 t197, .int .i64 x193001_1, .int .i64 x193002_1, .slice Ao27 x193003_1.length co27]) ?_ 1 _ rfl; (with_reducible repeat (first | refine zd ?_ _ | refine zg ?_ | refine zb ?_ _)); refine zu (cs := #[.int .i64 x193000_1, .int .i64 x193001_1, .int .i64 x193002_1, .slice Ao27 x193003_1.length co27]) ?_ 0 _ rfl; (with_reducible repeat (first | refine zd ?_ _ | refine zg ?_ | refine zb ?_ _)); refine zv ?_ NB192_204.out _; (with_reducible repeat (first | refine zd ?_ _ | refine zg ?_ | refine zb ?_ _)); refine zv ?_ NB192_204.out _; (with_reducible repeat (first | refine zd ?_ _ | refine zg ?_ | refine zb ?_ _)); refine zv ?_ NB192_204.out _; (with_reducible repeat (first | refine zd ?_ _ | refine zg ?_ | refine zb ?_ _)); refine zv ?_ NB192_204.out _; (with_reducible repeat (first | refine zd ?_ _ | refine zg ?_ | refine zb ?_ _)); exact BK192.out) hg (zac HO_8.out BK192.out zG89))) (zA_ (za (Kd.R_over' (by (with_reducible repeat (first | apply zm | apply zl | apply zn)); exact (zr (zr (zo (p := ⟨gb192, 3, none⟩) (zo (p := ⟨gb192, 2, none⟩) (zo (p := ⟨gb192, 1, none⟩) (zo (p := ⟨gb192, 0, none⟩) (zo (p := ⟨gb204, 3, none⟩) (zo (p := ⟨gb204, 2, none⟩) (zo (p := ⟨gb204, 1, none⟩) (zo (p := ⟨gb204, 0, none⟩) (zw (zw HO202.out BK204.out zG89) BK192.out zG89) (fun _ hk => hk.1.2) (.int .i64 t197)) (fun _ hk => hk.1.2) (.int .i64 t198)) (fun _ hk => hk.1.2) (.int .i64 t199)) (fun _ hk => hk.1.2) (.slice Ao35 t200.length co35)) (fun _ hk => hk.2) (.int .i64 t197)) (fun _ hk => hk.2) (.int .i64 t198)) (fun _ hk => hk.2) (.int .i64 t199)) (fun _ hk => hk.2) (.slice Ao35 t200.length co35)) (fun _ h_ => h_.1)) (fun _ h_ => h_.1))) (zah (by (with_reducible repeat (first | apply zm | apply zl | apply zn)); exact (zr (zr (zo (p := ⟨gb192, 3, none⟩) (zo (p := ⟨gb192, 2, none⟩) (zo (p := ⟨gb192, 1, none⟩) (zo (p := ⟨gb192, 0, none⟩) (zo (p := ⟨gb204, 3, none⟩) (zo (p := ⟨gb204, 2, none⟩) (zo (p := ⟨gb204, 1, none⟩) (zo (p := ⟨gb204, 0, none⟩) (zw (zw HO_8.out BK204.out zG89) BK192.out zG89) (fun _ hk => hk.1.2) (.int .i64 t197)) (fun _ hk => hk.1.2) (.int .i64 t198)) (fun _ hk => hk.1.2) (.int .i64 t199)) (fun _ hk => hk.1.2) (.slice Ao35 t200.length co35)) (fun _ hk => hk.2) (.int .i64 t197)) (fun _ hk => hk.2) (.int .i64 t198)) (fun _ hk => hk.2) (.int .i64 t199)) (fun _ hk => hk.2) (.slice Ao35 t200.length co35)) (fun _ h_ => h_.1)) (fun _ h_ => h_.1)))) zG89 hg)) (zA_ (za (zaf (g := gb204) (o := .cells #[.int .i64 t197, .int .i64 t198, .int .i64 t199, .slice Ao35 t200.length co35] 30 (0, 0)) (by (with_reducible repeat (first | refine zd ?_ _ | refine zg ?_ | refine zb ?_ _)); refine zv ?_ NB204_192.out _; (with_reducible repeat (first | refine zd ?_ _ | refine zg ?_ | refine zb ?_ _)); refine zv ?_ NB204_192.out _; (with_reducible repeat (first | refine zd ?_ _ | refine zg ?_ | refine zb ?_ _)); refine zv ?_ NB204_192.out _; (with_reducible repeat (first | refine zd ?_ _ | refine zg ?_ | refine zb ?_ _)); refine zv ?_ NB204_192.out _; (with_reducible repeat (first | refine zd ?_ _ | refine zg ?_ | refine zb ?_ _)); refine zu (cs := #[.int .i64 t197, .int .i64 t198, .int .i64 t199, .slice none 0 0]) ?_ 3 _ rfl; (with_reducible repeat (first | refine zd ?_ _ | refine zg ?_ | refine zb ?_ _)); refine zu (cs := #[.int .i64 t197, .int .i64 t198, .int .i64 0, .slice none 0 0]) ?_ 2 _ rfl; (with_reducible repeat (first | refine zd ?_ _ | refine zg ?_ | refine zb ?_ _)); refine zu (cs := #[.int .i64 t197, .int .i64 0, .int .i64 0, .slice none 0 0]) ?_ 1 _ rfl; (with_reducible repeat (first | refine zd ?_ _ | refine zg ?_ | refine zb ?_ _)); refine zu (cs := #[.int .i64 0, .int .i64 0, .int .i64 0, .slice none 0 0]) ?_ 0 _ rfl; (with_reducible repeat (first | refine zd ?_ _ | refine zg ?_ | refine zb ?_ _)); exact BK204.out) hg (zac HO_8.out BK204.out zG89))) (zA_ (za (hb)) (za (ho)))))); clear BK181 BK192 HO202 BK204 HB HO_8; obtain ⟨BK181, BK192, HO202, BK204, HB, HO207⟩ := n_; clear ho hb hg hat))
   go_roundg k1
   case measure => have := HK1.out; omega
   case rel => exact ⟨(y205), (wrap64 (x9_1 + 1)), (t197), (t198), (t199), (t200), (.slice Ao35 t200.length co35), zG87, H', ⟨zH94⟩, ⟨by (with_reducible repeat (first | apply zm | apply zl | apply zn)); exact HO207.out⟩, ⟨by (with_reducible repeat (first | apply zm | apply zl | apply zn)); exact HO202.out⟩, ⟨by (with_reducible repeat (first | refine zd ?_ _ | refine zg ?_ | refine zb ?_ _)); exact BK181.out⟩, ⟨by (with_reducible repeat (first | refine zd ?_ _ | refine zg ?_ | refine zb ?_ _)); exact BK192.out⟩, ⟨by repeat (first | (with_reducible first | exact HB.out | apply zk | apply zf | apply zi | refine zh ?_ GE181.out | refine zh ?_ GE192.out | refine zh ?_ GE204.out) | exact HB.out)⟩⟩
/-! ### laws_toCartAct: function 27 -/
def laws_toCartAct.f (a0_0 : Int) (a0_1 : Int) (a0_2 : Int) (a0_3 : Int) : Option (Int × Int × Int × Int) := some (a0_0, a0_1, a0_2, a0_3)
set_option maxHeartbeats 64000000 in
set_option maxRecDepth 100000 in
theorem laws_toCartAct.calls (a0_0 : Int) (a0_1 : Int) (a0_2 : Int) (a0_3 : Int) (r1 : Int) (r2 : Int) (r3 : Int) (r4 : Int) (w : World) (h : laws_toCartAct.f a0_0 a0_1 a0_2 a0_3 = some (r1, r2, r3, r4)) :
  Calls Try.prog 27 #[.agg #[.int .i64 a0_0, .int .i64 a0_1, .int .i64 a0_2, .int .i64 a0_3]] w fun e w' => e = .returned (.agg #[.int .i64 r1, .int .i64 r2, .int .i64 r3, .int .i64 r4]) ∧ Below w.heap.size w w' := by
 have hu60 := Try.underlying60
 have hu54 := Try.underlying54
 have HB := za (Below.refl w.heap.size w)
 have H : (some (a0_0, a0_1, a0_2, a0_3)) = some (r1, r2, r3, r4) := h
 clear h
 simp only [Option.some.injEq, Prod.mk.injEq] at H
 obtain ⟨rfl, rfl, rfl, rfl⟩ := H
 go_enter Try.func27, Try.ntmps27
 go_wp2_with (first | ((with_reducible refine gate_dst (N := 1) rfl ?_); refine box_event ?hg (N := 1) ?hd (cs := #[.int .i64 a0_0, .int .i64 a0_1, .int .i64 a0_2, .int .i64 a0_3]) (t := 60) ?hr ?_; (case hd => rfl); (case hg => rfl); (case hr => exact zH89); intro gb208 hg w2 hbox hb; have n_ := zA_ (za (zt zG70 hb)) (zA_ (za (hbox)) (zA_ (zN1 w.heap.size hg (zs zG70)) (zN1 w.heap.size hg (zs zG70)))); clear HB; obtain ⟨HB, BK208, GW208, GE208⟩ := n_; clear hb hbox hg) | ((with_reducible refine gate_dst (N := 2) rfl ?_); refine box_event ?hg (N := 2) ?hd (cs := #[.int .i64 0, .int .i64 0, .int .i64 0, .int .i64 0]) (t := 54) ?hr ?_; (case hd => rfl); (case hg => rfl); (case hr => exact zH89); intro gb209 hg w3 hbox hb; have n_ := zA_ (za (zq (g := gb208) (o := .cells #[.int .i64 a0_0, .int .i64 a0_1, .int .i64 a0_2, .int .i64 a0_3] 60 (0, 0)) zK154 hb)) (zA_ (za (zt zK142 hb)) (zA_ (za (hbox)) (zA_ (zN1 w.heap.size hg (zs zK142)) (zA_ (zN1 w.heap.size hg (zs zK142)) (zN2 hg (zx (g := gb208) (o := .cells #[.int .i64 a0_0, .int .i64 a0_1, .int .i64 a0_2, .int .i64 a0_3] 60 (0, 0)) zK154)))))); clear BK208 HB; obtain ⟨BK208, HB, BK209, GW209, GE209, NB208_209, NB209_208⟩ := n_; clear hb hbox hg) | ((with_reducible refine gate_dst (N := 3) rfl ?_); refine box_event ?hg (N := 3) ?hd (cs := #[.int .i64 0, .int .i64 0, .int .i64 0, .int .i64 0]) (t := 54) ?hr ?_; (case hd => rfl); (case hg => rfl); (case hr => exact zH89); intro gb210 hg w4 hbox hb; have n_ := zA_ (za (zq (g := gb208) (o := .cells #[.int .i64 a0_0, .int .i64 a0_1, .int .i64 a0_2, .int .i64 a0_3] 60 (0, 0)) zK154 hb)) (zA_ (za (zq (g := gb209) (o := .cells #[.int .i64 0, .int .i64 0, .int .i64 0, .int .i64 0] 54 (0, 0)) zK155 hb)) (zA_ (za (zt zK136 hb)) (zA_ (za (hbox)) (zA_ (zN1 w.heap.size hg (zs zK136)) (zA_ (zN1 w.heap.size hg (zs zK136)) (zN3 hg (zx (g := gb208) (o := .cells #[.int .i64 a0_0, .int .i64 a0_1, .int .i64 a0_2, .int .i64 a0_3] 60 (0, 0)) zK154) (zN2 hg (zx (g := gb209) (o := .cells #[.int .i64 0, .int .i64 0, .int .i64 0, .int .i64 0] 54 (0, 0)) zK155)))))))); clear BK208 BK209 HB; obtain ⟨BK208, BK209, HB, BK210, GW210, GE210, NB208_210, NB210_208, NB209_210, NB210_209⟩ := n_; clear hb hbox hg; have hnb5 := NB208_209.out; have hnc5 := NB209_208.out; have hnb6 := NB208_210.out; have hnc6 := NB210_208.out; obtain ⟨hcz7_0, hcz7_1, hcz7_2, hcz7_3, hfz7_0, hfz7_1, hfz7_2, hfz7_3⟩ := zB4 BK208.out; have hnb8 := NB210_209.out; have hnc8 := NB209_210.out; obtain ⟨hcz9_0, hcz9_1, hcz9_2, hcz9_3, hfz9_0, hfz9_1, hfz9_2, hfz9_3⟩ := zB4 BK210.out; obtain ⟨hcz10_0, hcz10_1, hcz10_2, hcz10_3, hfz10_0, hfz10_1, hfz10_2, hfz10_3⟩ := zB4 BK209.out))
 refine bodyPost_ret (results_cell_row rfl _ _ gb209 54 #[.int .i64 a0_0, .int .i64 a0_1, .int .i64 a0_2, .int .i64 a0_3] (0, 0) _ rfl (by (with_reducible repeat (first | refine zd ?_ _ | refine zg ?_ | refine zb ?_ _)); refine zu (cs := #[.int .i64 a0_0, .int .i64 a0_1, .int .i64 a0_2, .int .i64 0]) ?_ 3 _ rfl; (with_reducible repeat (first | refine zd ?_ _ | refine zg ?_ | refine zb ?_ _)); refine zu (cs := #[.int .i64 a0_0, .int .i64 a0_1, .int .i64 0, .int .i64 0]) ?_ 2 _ rfl; (with_reducible repeat (first | refine zd ?_ _ | refine zg ?_ | refine zb ?_ _)); refine zu (cs := #[.int .i64 a0_0, .int .i64 0, .int .i64 0, .int .i64 0]) ?_ 1 _ rfl; (with_reducible repeat (first | refine zd ?_ _ | refine zg ?_ | refine zb ?_ _)); refine zu (cs := #[.int .i64 0, .int .i64 0, .int .i64 0, .int .i64 0]) ?_ 0 _ rfl; (with_reducible repeat (first | refine zd ?_ _ | refine zg ?_ | refine zb ?_ _)); refine zv ?_ NB209_210.out _; (with_reducible repeat (first | refine zd ?_ _ | refine zg ?_ | refine zb ?_ _)); refine zv ?_ NB209_210.out _; (with_reducible repeat (first | refine zd ?_ _ | refine zg ?_ | refine zb ?_ _)); refine zv ?_ NB209_210.out _; (with_reducible repeat (first | refine zd ?_ _ | refine zg ?_ | refine zb ?_ _)); refine zv ?_ NB209_210.out _; (with_reducible repeat (first | refine zd ?_ _ | refine zg ?_ | refine zb ?_ _)); exact BK209.out) Try.underlying54 rfl zG88) rfl ?_
 exact ⟨zH78, by repeat (first | (with_reducible first | exact HB.out | apply zk | apply zf | apply zi | refine zh ?_ GE208.out | refine zh ?_ GE209.out | refine zh ?_ GE210.out) | exact HB.out)⟩

/-! ### laws_toCartActS: function 10 -/
def laws_toCartActS.l0 : Nat → List (S60) → List (S54) → Int → Option ((List (S54)))
 | 0, _, _, _ => none
 | k + 1, x0, x3, x4 => if x4 < (x0.length : Int) then (if 0 ≤ x4 then ((laws_toCartAct.f ((rd_T60 x0 x4).f0) ((rd_T60 x0 x4).f1) ((rd_T60 x0 x4).f2) ((rd_T60 x0 x4).f3)).bind fun bt215 => (if x4 < (x3.length : Int) then (laws_toCartActS.l0 k x0 (x3.set (x4 : Int).toNat (⟨bt215.1, bt215.2.1, bt215.2.2.1, bt215.2.2.2⟩ : S54)) (wrap64 (x4 + 1))) else (none))) else (none)) else (some x3)
def laws_toCartActS.f (k : Nat) (l0 : List (S60)) : Option ((List (S54))) := if 0 ≤ (l0.length : Int) then (if ((l0.length : Int) : Int).toNat ≤ 8796093022208 then (laws_toCartActS.l0 k l0 (List.replicate ((l0.length : Int) : Int).toNat z54) 0) else (none)) else (none)
theorem laws_toCartActS.mono_l : ∀ k, (∀ y0 y1 y2, LeO (laws_toCartActS.l0 k y0 y1 y2) (laws_toCartActS.l0 (k + 1) y0 y1 y2))
 | 0 => fun _ _ _ r h => by simp [laws_toCartActS.l0] at h
 | k + 1 => by
  have ih0 := laws_toCartActS.mono_l k
  ·intro y0 y1 y2
   unfold laws_toCartActS.l0
   repeat' first
   | (with_reducible exact ih0 _ _ _)
   | (with_reducible exact LeO.refl _)
   | (with_reducible exact LeO.none _)
   | (with_reducible refine LeO.ite ?_ ?_)
   | (with_reducible refine LeO.bind ?_ (fun _ => ?_))
   | exact ih0 _ _ _
   | exact LeO.none _
   | refine LeO.ite ?_ ?_
   | refine LeO.bind ?_ (fun _ => ?_)
theorem laws_toCartActS.mono : ∀ a0 k, LeO (laws_toCartActS.f k a0) (laws_toCartActS.f (k + 1) a0) := by
 intro a0 k
 have ih0 := laws_toCartActS.mono_l k
 unfold laws_toCartActS.f
 repeat' first
   | (with_reducible exact ih0 _ _ _)
   | (with_reducible exact LeO.refl _)
   | (with_reducible exact LeO.none _)
   | (with_reducible refine LeO.ite ?_ ?_)
   | (with_reducible refine LeO.bind ?_ (fun _ => ?_))
   | exact ih0 _ _ _
   | exact LeO.none _
   | refine LeO.ite ?_ ?_
   | refine LeO.bind ?_ (fun _ => ?_)
set_option maxHeartbeats 64000000 in
set_option maxRecDepth 100000 in
theorem laws_toCartActS.calls (k : Nat) (A0 : Option Addr) (c0 : Nat) (l0 : List (S60)) (r : List (S54)) (w : World) (hr0 : Kd.C k60 w A0 l0.length l0) (hc0 : l0.length ≤ c0) (h : laws_toCartActS.f k l0 = some r) :
  Calls Try.prog 10 #[.slice A0 l0.length c0] w fun e w' => ∃ v0_ : Value, e = .returned (v0_) ∧ Kd.R k54 54 w' w.heap.size (fun _ => True) v0_ r ∧ Below w.heap.size w w' := by
 have hu60 := Try.underlying60
 have hu54 := Try.underlying54
 obtain ⟨HR0, HC0, HB⟩ := zD3 hr0 hc0 (Below.refl w.heap.size w)
 clear hr0 hc0
 have H : (if 0 ≤ (l0.length : Int) then (if ((l0.length : Int) : Int).toNat ≤ 8796093022208 then (laws_toCartActS.l0 k l0 (List.replicate ((l0.length : Int) : Int).toNat z54) 0) else (none)) else (none)) = some r := h
 clear h
 by_cases c2 : 0 ≤ (l0.length : Int)
 rotate_left
 ·rw [if_neg c2] at H
  exact absurd H (by simp)

 rw [if_pos c2] at H
 have c2b0 := eq_true c2
 have c2b1 := decide_eq_true c2
 clear c2
 by_cases c3 : ((l0.length : Int) : Int).toNat ≤ 8796093022208
 rotate_left
 ·rw [if_neg c3] at H
  exact absurd H (by simp)
 rw [if_pos c3] at H
 have c3b0 := eq_true c3
 have c3b1 := decide_eq_true c3
 clear c3
 obtain ⟨y211, hy211⟩ : ∃ y_ : List (S54), y_ = (List.replicate ((l0.length : Int) : Int).toNat z54) := ⟨_, rfl⟩
 replace H : (laws_toCartActS.l0 k l0 y211 0) = some r := by first | (rw [hy211]; with_reducible exact H) | (have H2_ := (Option.bind_some _ _).symm.trans H; rw [hy211]; with_reducible exact H2_) | (have H2_ := (Option.bind_some _ _).symm.trans H; with_reducible exact H2_) | with_reducible exact H | (rw [hy211]; exact H) | exact H
 have Ny211 := za hy211
 clear hy211
 have H' := za H
 clear H
 go_enter Try.func10, Try.ntmps10
 go_wp2_with (first | ((with_reducible refine gate_dst (N := 7) rfl ?_); refine Kd.R_make k54 _ 54 rfl (N := 7) rfl 23 _ _ rfl (l0.length : Int) rfl rfl Try.underlying23 (.agg #[(.int .i64 0), (.int .i64 0), (.int .i64 0), (.int .i64 0)]) 32 info54 rfl zG89 (by omega) z54 (ok := fun _ => True) (okp := fun _ => True) (k54_mkM _ _ _ z54 ) (fun _ hk => hk) trivial zO (Nat.le_trans (Nat.mul_le_mul_right _ (zO : (l0.length : Int).toNat ≤ 8796093022208)) (by omega)) (Below.refl _ _) (Nat.le_refl _) ?_; intro v212 w4 ho5 hb hg_ hnew_; clear hg_ hnew_; (first | rw [← Ny211.out] at ho5 | (simp only [Int.reduceToNat] at ho5; rw [← Ny211.out] at ho5)); have n_ := zA_ (za (zag ho5 (zs zG70))) (za (zt zG70 hb)); clear HB; obtain ⟨HO213, HB⟩ := n_; clear hb ho5))
 go_loopg [4] k (fun kq v4 w' => ∃ (x3_1 : List (S54)) (x4_1 : Int), v4 = .int .i64 x4_1 ∧ Aside0 (laws_toCartActS.l0 kq l0 x3_1 x4_1 = some r) ∧ Aside0 (kq ≤ k) ∧ Aside0 (Kd.R k54 54 w' w.heap.size (fun _ => True) v212 x3_1) ∧ Aside0 (Below w.heap.size w w'))
 case atStart => exact ⟨(y211), (0), zG87, H', ⟨Nat.le_refl _⟩, ⟨by (with_reducible repeat (first | apply zm | apply zl | apply zn)); exact HO213.out⟩, ⟨zH65⟩⟩
 case round =>
  clear H'
  try clear c2
  try clear c2b0
  try clear c2b1
  try clear c3
  try clear c3b0
  try clear c3b1
  obtain ⟨x3_1, x4_1, rfl, HA, HK1, HO_3, HB⟩ := hrel
  cases gk with
  | zero => exact absurd HA.out (by simp [laws_toCartActS.l0])
  | succ k1 =>
   have H := HA.out
   clear HA
   simp only [laws_toCartActS.l0] at H
   by_cases c6 : x4_1 < (l0.length : Int)
   rotate_left
   ·rw [if_neg c6] at H
    have c6b0 := decide_eq_false c6
    clear c6
    obtain rfl := Option.some.inj H
    go_wp2
    go_ret
    exact ⟨_, zH78, by (with_reducible repeat (first | apply zm | apply zl | apply zn)); exact HO_3.out, zH65⟩
   rw [if_pos c6] at H
   have c6b0 := decide_eq_true c6
   clear c6
   by_cases c7 : 0 ≤ x4_1
   rotate_left
   ·rw [if_neg c7] at H
    exact absurd H (by simp)
   rw [if_pos c7] at H
   have c7b0 := decide_eq_true c7
   clear c7
   replace H := Option.bind_eq_some_iff.mp H
   obtain ⟨⟨t215, t216, t217, t218⟩, A80, H⟩ := H
   replace H : (if x4_1 < (x3_1.length : Int) then (laws_toCartActS.l0 k1 l0 (x3_1.set (x4_1 : Int).toNat (⟨t215, t216, t217, t218⟩ : S54)) (wrap64 (x4_1 + 1))) else (none)) = some r := H
   have A8 := za A80
   clear A80
   by_cases c9 : x4_1 < (x3_1.length : Int)
   rotate_left
   ·rw [if_neg c9] at H
    exact absurd H (by simp)
   rw [if_pos c9] at H
   have c9b0 := decide_eq_true c9
   clear c9
   obtain ⟨y219, hy219⟩ : ∃ y_ : List (S54), y_ = (x3_1.set (x4_1 : Int).toNat (⟨t215, t216, t217, t218⟩ : S54)) := ⟨_, rfl⟩
   replace H : (laws_toCartActS.l0 k1 l0 y219 (wrap64 (x4_1 + 1))) = some r := by first | (rw [hy219]; with_reducible exact H) | (have H2_ := (Option.bind_some _ _).symm.trans H; rw [hy219]; with_reducible exact H2_) | (have H2_ := (Option.bind_some _ _).symm.trans H; with_reducible exact H2_) | with_reducible exact H | (rw [hy219]; exact H) | exact H
   have Ny219 := za hy219
   clear hy219
   have H' := za H
   clear H
   have p214 : 0 ≤ (x4_1 : Int) := zO
   have q214 : x4_1 < (l0.length : Int) := zO
   obtain ⟨ad214, e214, hx214_0, hx214_1, hx214_2, hx214_3⟩ := at_T60 HR0.out x4_1 p214 q214
   cases e214
   replace hx214_0 := (HB.out.cell (zj w _ hx214_0)).trans hx214_0
   replace hx214_1 := (HB.out.cell (zj w _ hx214_1)).trans hx214_1
   replace hx214_2 := (HB.out.cell (zj w _ hx214_2)).trans hx214_2
   replace hx214_3 := (HB.out.cell (zj w _ hx214_3)).trans hx214_3
   replace p214 := eq_true p214
   replace q214 := eq_true q214
   go_wp2_with (first | ((with_reducible refine gate_callee (f := 27) rfl ?_); refine goesL_ (some 20) rfl rfl Try.func27 zG88 rfl #[.agg #[.int .i64 ((rd_T60 l0 x4_1).f0), .int .i64 ((rd_T60 l0 x4_1).f1), .int .i64 ((rd_T60 l0 x4_1).f2), .int .i64 ((rd_T60 l0 x4_1).f3)]] rfl zG63 ?_; (with_reducible refine (laws_toCartAct.calls ((rd_T60 l0 x4_1).f0) ((rd_T60 l0 x4_1).f1) ((rd_T60 l0 x4_1).f2) ((rd_T60 l0 x4_1).f3) t215 t216 t217 t218 _ A8.out).mono ?_); rintro e w11 ⟨rfl, hb⟩; refine ⟨_, rfl, ?_⟩; have n_ := zA_ (za (zp (by (with_reducible repeat (first | apply zm | apply zl | apply zn)); exact HO_3.out) hb)) (za (zt zG70 hb)); clear HO_3 HB; obtain ⟨HO_3, HB⟩ := n_; (try clear hb); (try clear hk); have p10 : 0 ≤ (x4_1 : Int) := zO; have q10 : (x4_1 : Int) < ((x3_1.length : Int) : Int) := zO; obtain ⟨go10, co10, eo10, gb10, gl10, cl10, HG10⟩ := Kd.R_form HO_3.out (by omega); (first | cases eo10 | (injection eo10 with ea_ en_ ec_; (first | subst ea_ | (injection ea_ with ea_; subst ea_)); subst ec_; clear en_)); have GB10 := za gb10; have GG10 := za HG10; clear gb10 gl10 HG10; obtain ⟨ce10, hcl10, hM10, hcc10, hfr10⟩ := zao HO_3.out z54 (x4_1 : Int) p10 q10; obtain rfl := k54_openM hM10; have hx10_0 : w11.cell? ⟨go10, (x4_1 : Int).toNat * 4, none⟩ = some (.int .i64 ((rd_T54 x3_1 x4_1).f0)) := hcc10 0 _ rfl; have hx10_1 : w11.cell? ⟨go10, (x4_1 : Int).toNat * 4 + 1, none⟩ = some (.int .i64 ((rd_T54 x3_1 x4_1).f1)) := hcc10 1 _ rfl; have hx10_2 : w11.cell? ⟨go10, (x4_1 : Int).toNat * 4 + 2, none⟩ = some (.int .i64 ((rd_T54 x3_1 x4_1).f2)) := hcc10 2 _ rfl; have hx10_3 : w11.cell? ⟨go10, (x4_1 : Int).toNat * 4 + 3, none⟩ = some (.int .i64 ((rd_T54 x3_1 x4_1).f3)) := hcc10 3 _ rfl; have hf10_0 : w11.frozen? ⟨go10, (x4_1 : Int).toNat * 4, none⟩ = false := hfr10 0; have hf10_1 : w11.frozen? ⟨go10, (x4_1 : Int).toNat * 4 + 1, none⟩ = false := hfr10 1; have hf10_2 : w11.frozen? ⟨go10, (x4_1 : Int).toNat * 4 + 2, none⟩ = false := hfr10 2; have hf10_3 : w11.frozen? ⟨go10, (x4_1 : Int).toNat * 4 + 3, none⟩ = false := hfr10 3; clear hcl10 hcc10 hfr10 hM10; replace p10 := eq_true p10; replace q10 := eq_true q10; have HX12 := za (show Kd.R k54 54 w11 w.heap.size (fun _ => True) (.slice (some ⟨go10, 0, none⟩) x3_1.length co10) x3_1 from (by (with_reducible repeat (first | apply zm | apply zl | apply zn)); exact HO_3.out)); obtain ⟨ce12, hcl12, hM12, hcc12, hfr12⟩ := zao HX12.out z54 (x4_1 : Int) zO (by have h_ : (x4_1 : Int) < ((x3_1.length : Int) : Int) := zO; first | exact h_ | (have e_ := (Kd.R_reads' HO_3.out).1; omega) | simpa using h_); obtain rfl := k54_openM hM12; have HP12 := zay HX12.out (x4_1 : Int) zO (by have h_ : (x4_1 : Int) < ((x3_1.length : Int) : Int) := zO; first | exact h_ | (have e_ := (Kd.R_reads' HO_3.out).1; omega) | simpa using h_) (seg := [.int .i64 t215, .int .i64 t216, .int .i64 t217, .int .i64 t218]) (j := 0) hcl12 hcc12 (show 4 ≤ 4 from by decide) (x' := (⟨t215, t216, t217, t218⟩ : S54)) (k54_mkM _ _ _ (⟨t215, t216, t217, t218⟩ : S54) ) (fun _ hk => hk); have hx12_0 := hcc12 0 _ rfl; (try simp only [show (k54).sz = 4 from rfl, Nat.mul_one, Nat.add_zero] at hx12_0); have hf12_0 := hfr12 0; (try simp only [show (k54).sz = 4 from rfl, Nat.mul_one, Nat.add_zero] at hf12_0); have hx12_1 := hcc12 1 _ rfl; (try simp only [show (k54).sz = 4 from rfl, Nat.mul_one, Nat.add_zero] at hx12_1); have hf12_1 := hfr12 1; (try simp only [show (k54).sz = 4 from rfl, Nat.mul_one, Nat.add_zero] at hf12_1); have hx12_2 := hcc12 2 _ rfl; (try simp only [show (k54).sz = 4 from rfl, Nat.mul_one, Nat.add_zero] at hx12_2); have hf12_2 := hfr12 2; (try simp only [show (k54).sz = 4 from rfl, Nat.mul_one, Nat.add_zero] at hf12_2); have hx12_3 := hcc12 3 _ rfl; (try simp only [show (k54).sz = 4 from rfl, Nat.mul_one, Nat.add_zero] at hx12_3); have hf12_3 := hfr12 3; (try simp only [show (k54).sz = 4 from rfl, Nat.mul_one, Nat.add_zero] at hf12_3); clear hcl12 hcc12 hfr12 hM12) | ((with_reducible refine gate_store (t := 54) (p := 21) rfl ?_); refine store_event (t := 54) (p := 21) (v := ?vo_w13) (w1 := ((((w11.setCell ⟨go10, (x4_1 : Int).toNat * 4, none⟩ (.int .i64 t215)).setCell ⟨go10, (x4_1 : Int).toNat * 4 + 1, none⟩ (.int .i64 t216)).setCell ⟨go10, (x4_1 : Int).toNat * 4 + 2, none⟩ (.int .i64 t217)).setCell ⟨go10, (x4_1 : Int).toNat * 4 + 3, none⟩ (.int .i64 t218))) ?hg ?ho ?hn ?hr ?_; (case ho => rfl); (case hg => rfl); (case hn => rfl); (case hr => exact zH89); intro w13 hw; have hg : w11.grownBy w13 (some go10) := (by rw [hw]; exact HP12.2); have hp_ : Kd.R k54 54 w13 w.heap.size (fun _ => True) (.slice (some ⟨go10, 0, none⟩) x3_1.length co10) y219 := (by rw [hw, Ny219.out]; exact HP12.1); clear HP12; have n_ := zA_ (za (hp_)) (za ((by rw [hw]; exact zh (zh (zh (zh (HB.out) GB10.out) GB10.out) GB10.out) GB10.out : Below w.heap.size w w13))); clear HO_3 HB; obtain ⟨HO_3, HB⟩ := n_; clear hg hw hp_))
   go_roundg k1
   case measure => have := HK1.out; omega
   case rel => exact ⟨(y219), (wrap64 (x4_1 + 1)), zG87, H', ⟨zH94⟩, ⟨by (with_reducible repeat (first | apply zm | apply zl | apply zn)); exact HO_3.out⟩, ⟨zH65⟩⟩
/-! ### laws_eqCartObs: function 28 -/
def laws_eqCartObs.f (a0_0 : Int) (a0_1 : Int) (a1_0 : Int) (a1_1 : Int) : Option (Bool) := if a0_0 = a1_0 then (if a0_1 = a1_1 then (some true) else (some false)) else (some false)
set_option maxHeartbeats 64000000 in
set_option maxRecDepth 100000 in
theorem laws_eqCartObs.calls (a0_0 : Int) (a0_1 : Int) (a1_0 : Int) (a1_1 : Int) (r : Bool) (w : World) (h : laws_eqCartObs.f a0_0 a0_1 a1_0 a1_1 = some r) :
  Calls Try.prog 28 #[.agg #[.int .i64 a0_0, .int .i64 a0_1], .agg #[.int .i64 a1_0, .int .i64 a1_1]] w fun e w' => e = .returned (.bool r) ∧ Below w.heap.size w w' := by
 have hu34 := Try.underlying34
 have HB := za (Below.refl w.heap.size w)
 have H : (if a0_0 = a1_0 then (if a0_1 = a1_1 then (some true) else (some false)) else (some false)) = some r := h
 clear h
 by_cases c3 : a0_0 = a1_0
 rotate_left
 ·rw [if_neg c3] at H
  have c3b0 : (a0_0 == a1_0) = false := beq_eq_false_iff_ne.mpr c3
  have c3b1 : (a0_0 != a1_0) = true := bne_iff_ne.mpr c3
  obtain rfl := Option.some.inj H
  go_enter Try.func28, Try.ntmps28
  go_wp2_with (first | ((with_reducible refine gate_dst (N := 2) rfl ?_); refine box_event ?hg (N := 2) ?hd (cs := #[.int .i64 a0_0, .int .i64 a0_1]) (t := 34) ?hr ?_; (case hd => rfl); (case hg => rfl); (case hr => exact zH89); intro gb220 hg w15 hbox hb; have n_ := zA_ (za (zt zG70 hb)) (zA_ (za (hbox)) (zA_ (zN1 w.heap.size hg (zs zG70)) (zN1 w.heap.size hg (zs zG70)))); clear HB; obtain ⟨HB, BK220, GW220, GE220⟩ := n_; clear hb hbox hg) | ((with_reducible refine gate_dst (N := 3) rfl ?_); refine box_event ?hg (N := 3) ?hd (cs := #[.int .i64 a1_0, .int .i64 a1_1]) (t := 34) ?hr ?_; (case hd => rfl); (case hg => rfl); (case hr => exact zH89); intro gb221 hg w16 hbox hb; have n_ := zA_ (za (zq (g := gb220) (o := .cells #[.int .i64 a0_0, .int .i64 a0_1] 34 (0, 0)) zK156 hb)) (zA_ (za (zt zK143 hb)) (zA_ (za (hbox)) (zA_ (zN1 w.heap.size hg (zs zK143)) (zA_ (zN1 w.heap.size hg (zs zK143)) (zN2 hg (zx (g := gb220) (o := .cells #[.int .i64 a0_0, .int .i64 a0_1] 34 (0, 0)) zK156)))))); clear BK220 HB; obtain ⟨BK220, HB, BK221, GW221, GE221, NB220_221, NB221_220⟩ := n_; clear hb hbox hg; have hnb17 := NB220_221.out; have hnc17 := NB221_220.out; obtain ⟨hcz18_0, hcz18_1, hfz18_0, hfz18_1⟩ := zB2 BK220.out; obtain ⟨hcz19_0, hcz19_1, hfz19_0, hfz19_1⟩ := zB2 BK221.out))
  go_ret
  exact zH12

 rw [if_pos c3] at H
 have c3b0 : (a0_0 == a1_0) = true := beq_iff_eq.mpr c3
 have c3b1 : (a0_0 != a1_0) = false := bne_eq_false_iff_eq.mpr c3
 clear c3
 by_cases c4 : a0_1 = a1_1
 rotate_left
 ·rw [if_neg c4] at H
  have c4b0 : (a0_1 == a1_1) = false := beq_eq_false_iff_ne.mpr c4
  have c4b1 : (a0_1 != a1_1) = true := bne_iff_ne.mpr c4
  obtain rfl := Option.some.inj H
  go_enter Try.func28, Try.ntmps28
  go_wp2_with (first | ((with_reducible refine gate_dst (N := 2) rfl ?_); refine box_event ?hg (N := 2) ?hd (cs := #[.int .i64 a0_0, .int .i64 a0_1]) (t := 34) ?hr ?_; (case hd => rfl); (case hg => rfl); (case hr => exact zH89); intro gb220 hg w10 hbox hb; have n_ := zA_ (za (zt zG70 hb)) (zA_ (za (hbox)) (zA_ (zN1 w.heap.size hg (zs zG70)) (zN1 w.heap.size hg (zs zG70)))); clear HB; obtain ⟨HB, BK220, GW220, GE220⟩ := n_; clear hb hbox hg) | ((with_reducible refine gate_dst (N := 3) rfl ?_); refine box_event ?hg (N := 3) ?hd (cs := #[.int .i64 a1_0, .int .i64 a1_1]) (t := 34) ?hr ?_; (case hd => rfl); (case hg => rfl); (case hr => exact zH89); intro gb221 hg w11 hbox hb; have n_ := zA_ (za (zq (g := gb220) (o := .cells #[.int .i64 a0_0, .int .i64 a0_1] 34 (0, 0)) zK156 hb)) (zA_ (za (zt zK143 hb)) (zA_ (za (hbox)) (zA_ (zN1 w.heap.size hg (zs zK143)) (zA_ (zN1 w.heap.size hg (zs zK143)) (zN2 hg (zx (g := gb220) (o := .cells #[.int .i64 a0_0, .int .i64 a0_1] 34 (0, 0)) zK156)))))); clear BK220 HB; obtain ⟨BK220, HB, BK221, GW221, GE221, NB220_221, NB221_220⟩ := n_; clear hb hbox hg; have hnb12 := NB220_221.out; have hnc12 := NB221_220.out; obtain ⟨hcz13_0, hcz13_1, hfz13_0, hfz13_1⟩ := zB2 BK220.out; obtain ⟨hcz14_0, hcz14_1, hfz14_0, hfz14_1⟩ := zB2 BK221.out))
  go_ret
  exact zH12
 rw [if_pos c4] at H
 have c4b0 : (a0_1 == a1_1) = true := beq_iff_eq.mpr c4
 have c4b1 : (a0_1 != a1_1) = false := bne_eq_false_iff_eq.mpr c4
 clear c4
 obtain rfl := Option.some.inj H
 go_enter Try.func28, Try.ntmps28
 go_wp2_with (first | ((with_reducible refine gate_dst (N := 2) rfl ?_); refine box_event ?hg (N := 2) ?hd (cs := #[.int .i64 a0_0, .int .i64 a0_1]) (t := 34) ?hr ?_; (case hd => rfl); (case hg => rfl); (case hr => exact zH89); intro gb220 hg w5 hbox hb; have n_ := zA_ (za (zt zG70 hb)) (zA_ (za (hbox)) (zA_ (zN1 w.heap.size hg (zs zG70)) (zN1 w.heap.size hg (zs zG70)))); clear HB; obtain ⟨HB, BK220, GW220, GE220⟩ := n_; clear hb hbox hg) | ((with_reducible refine gate_dst (N := 3) rfl ?_); refine box_event ?hg (N := 3) ?hd (cs := #[.int .i64 a1_0, .int .i64 a1_1]) (t := 34) ?hr ?_; (case hd => rfl); (case hg => rfl); (case hr => exact zH89); intro gb221 hg w6 hbox hb; have n_ := zA_ (za (zq (g := gb220) (o := .cells #[.int .i64 a0_0, .int .i64 a0_1] 34 (0, 0)) zK156 hb)) (zA_ (za (zt zK143 hb)) (zA_ (za (hbox)) (zA_ (zN1 w.heap.size hg (zs zK143)) (zA_ (zN1 w.heap.size hg (zs zK143)) (zN2 hg (zx (g := gb220) (o := .cells #[.int .i64 a0_0, .int .i64 a0_1] 34 (0, 0)) zK156)))))); clear BK220 HB; obtain ⟨BK220, HB, BK221, GW221, GE221, NB220_221, NB221_220⟩ := n_; clear hb hbox hg; have hnb7 := NB220_221.out; have hnc7 := NB221_220.out; obtain ⟨hcz8_0, hcz8_1, hfz8_0, hfz8_1⟩ := zB2 BK220.out; obtain ⟨hcz9_0, hcz9_1, hfz9_0, hfz9_1⟩ := zB2 BK221.out))
 go_ret
 exact zH12
end Go.Proofs.Ytdohpbhljifodaa.C
