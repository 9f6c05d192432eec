-- squeezed
-- made by pp.py (wip/tools) out of the translation; Lean checks it
import Derived.Test.YtdohpbhljifodaaD0
import Derived.Test.YtdohpbhljifodaaD3
import Derived.Test.YtdohpbhljifodaaD5
namespace Go.Proofs.Ytdohpbhljifodaa.D
open Go.RowKit Go.Proofs.YtdohpbhljifodaaW.PrintWords Go.Proofs.YtdohpbhljifodaaW.PrintLast Go.Proofs.YtdohpbhljifodaaW.PrintMore
attribute [local go_sem] max2_int min2_int max_two min_two max_three min_three max_four min_four   -- for this text's walks alone
set_option linter.unusedVariables false
set_option linter.unusedSimpArgs false


/-! ### impl_CartRun: function 7 -/
def impl_CartRun.l0 : Nat → List (S34) → List (S54) → Int → Int → Int → Int → Int → List (S36) → Option ((List (S34)) × Int × Int × Int × (List (S36)) × Int)
 | 0, _, _, _, _, _, _, _, _ => none
 | k + 1, x8, x30, x31, x32, x200000, x200001, x200002, x200003 => if x32 < x31 then (if 0 ≤ x32 then (if x32 < (x30.length : Int) then ((impl_Carts_do.f k x200000 x200001 x200002 x200003 ((rd_T54 x30 x32).f0) ((rd_T54 x30 x32).f1) ((rd_T54 x30 x32).f2) ((rd_T54 x30 x32).f3)).bind fun bt202 => (if x8.length < 8796093022208 then (impl_CartRun.l0 k (x8 ++ [(⟨bt202.1, bt202.2.2.1⟩ : S34)]) x30 x31 (wrap64 (x32 + 1)) bt202.2.1 bt202.2.2.1 bt202.2.2.2.1 bt202.2.2.2.2) else (none))) else (none)) else (none)) else (some (x8, x200000, x200001, x200002, x200003, 0))
def impl_CartRun.f (k : Nat) (a0 : Int) (l1 : List (S54)) : Option ((List (S34)) × Int × Int × Int × (List (S36)) × Int) := (impl_CartAct.f l1).bind fun t194 => (if t194 = true then ((impl_within.f a0 0 100000).bind fun t195 => (if t195 = true then (if (l1.length : Int) > 200 then (some (([] : List (S34)), 0, 0, 0, ([] : List (S36)), 9)) else (impl_CartRun.l0 k (([] : List (S34))) l1 (l1.length : Int) 0 0 a0 0 ([] : List (S36)))) else (some (([] : List (S34)), 0, 0, 0, ([] : List (S36)), 5)))) else (some (([] : List (S34)), 0, 0, 0, ([] : List (S36)), 2)))
theorem impl_CartRun.mono_l : ∀ k, (∀ y0 y1 y2 y3 y4 y5 y6 y7, LeO (impl_CartRun.l0 k y0 y1 y2 y3 y4 y5 y6 y7) (impl_CartRun.l0 (k + 1) y0 y1 y2 y3 y4 y5 y6 y7))
 | 0 => fun _ _ _ _ _ _ _ _ r h => by simp [impl_CartRun.l0] at h
 | k + 1 => by
  have ih0 := impl_CartRun.mono_l k
  ·intro y0 y1 y2 y3 y4 y5 y6 y7
   unfold impl_CartRun.l0
   repeat' first
   | (with_reducible exact ih0 _ _ _ _ _ _ _ _)
   | (with_reducible exact impl_Carts_do.mono _ _ _ _ _ _ _ _ _)
   | (with_reducible exact LeO.refl _)
   | (with_reducible exact LeO.none _)
   | (with_reducible refine LeO.ite ?_ ?_)
   | (with_reducible refine LeO.bind ?_ (fun _ => ?_))
   | exact ih0 _ _ _ _ _ _ _ _
   | exact impl_Carts_do.mono _ _ _ _ _ _ _ _ _
   | exact LeO.none _
   | refine LeO.ite ?_ ?_
   | refine LeO.bind ?_ (fun _ => ?_)
theorem impl_CartRun.mono : ∀ a0 a1 k, LeO (impl_CartRun.f k a0 a1) (impl_CartRun.f (k + 1) a0 a1) := by
 intro a0 a1 k
 have ih0 := impl_CartRun.mono_l k
 unfold impl_CartRun.f
 repeat' first
   | (with_reducible exact ih0 _ _ _ _ _ _ _ _)
   | (with_reducible exact impl_Carts_do.mono _ _ _ _ _ _ _ _ _)
   | (with_reducible exact LeO.refl _)
   | (with_reducible exact LeO.none _)
   | (with_reducible refine LeO.ite ?_ ?_)
   | (with_reducible refine LeO.bind ?_ (fun _ => ?_))
   | exact ih0 _ _ _ _ _ _ _ _
   | exact impl_Carts_do.mono _ _ _ _ _ _ _ _ _
   | exact LeO.none _
   | refine LeO.ite ?_ ?_
   | refine LeO.bind ?_ (fun _ => ?_)
set_option maxHeartbeats 64000000 in
set_option maxRecDepth 100000 in
theorem impl_CartRun.calls (k : Nat) (a0 : Int) (A1 : Option Addr) (c1 : Nat) (l1 : List (S54)) (r1 : List (S34)) (r2 : Int) (r3 : Int) (r4 : Int) (r5 : List (S36)) (r6 : Int) (w : World) (hr1 : Kd.C k54 w A1 l1.length l1) (hc1 : l1.length ≤ c1) (h : impl_CartRun.f k a0 l1 = some (r1, r2, r3, r4, r5, r6)) :
  Calls Try.prog 7 #[.int .i64 a0, .slice A1 l1.length c1] w fun e w' => ∃ v0_ v4_ : Value, e = .returned (.tuple #[v0_, .agg #[.int .i64 r2, .int .i64 r3, .int .i64 r4, v4_], .int .i64 r6]) ∧ Kd.R k34 34 w' w.heap.size (fun _ => True) v0_ r1 ∧ Kd.R k36 36 w' w.heap.size (fun _ => True) v4_ r5 ∧ Below w.heap.size w w' := by
 have hu30 := Try.underlying30
 have hu54 := Try.underlying54
 have hu34 := Try.underlying34
 obtain ⟨HR1, HC1, HB⟩ := zD3 hr1 hc1 (Below.refl w.heap.size w)
 clear hr1 hc1
 have H : ((impl_CartAct.f l1).bind fun t194 => (if t194 = true then ((impl_within.f a0 0 100000).bind fun t195 => (if t195 = true then (if (l1.length : Int) > 200 then (some (([] : List (S34)), 0, 0, 0, ([] : List (S36)), 9)) else (impl_CartRun.l0 k (([] : List (S34))) l1 (l1.length : Int) 0 0 a0 0 ([] : List (S36)))) else (some (([] : List (S34)), 0, 0, 0, ([] : List (S36)), 5)))) else (some (([] : List (S34)), 0, 0, 0, ([] : List (S36)), 2)))) = some (r1, r2, r3, r4, r5, r6) := h
 clear h
 replace H := Option.bind_eq_some_iff.mp H
 obtain ⟨t194, A30, H⟩ := H
 replace H : (if t194 = true then ((impl_within.f a0 0 100000).bind fun t195 => (if t195 = true then (if (l1.length : Int) > 200 then (some (([] : List (S34)), 0, 0, 0, ([] : List (S36)), 9)) else (impl_CartRun.l0 k (([] : List (S34))) l1 (l1.length : Int) 0 0 a0 0 ([] : List (S36)))) else (some (([] : List (S34)), 0, 0, 0, ([] : List (S36)), 5)))) else (some (([] : List (S34)), 0, 0, 0, ([] : List (S36)), 2))) = some (r1, r2, r3, r4, r5, r6) := H
 have A3 := za A30
 clear A30
 by_cases c4 : t194 = true
 rotate_left
 ·replace c4 := Bool.eq_false_iff.mpr c4
  subst c4
  have H1 : (some (([] : List (S34)), 0, 0, 0, ([] : List (S36)), 2)) = some (r1, r2, r3, r4, r5, r6) := by rw [if_neg (show ¬ (false = true) by decide)] at H; exact H
  clear H
  have H := H1
  clear H1
  simp only [Option.some.injEq, Prod.mk.injEq] at H
  obtain ⟨rfl, rfl, rfl, rfl, rfl, rfl⟩ := H
  go_enter Try.func7, Try.ntmps7
  go_wp2_with (first | ((with_reducible refine gate_dst (N := 5) rfl ?_); refine box_event ?hg (N := 5) ?hd (cs := #[.int .i64 0, .int .i64 0, .int .i64 0, .slice none 0 0]) (t := 30) ?hr ?_; (case hd => rfl); (case hg => rfl); (case hr => exact zH37); intro gb193 hg w46 hbox hb; have n_ := zA_ (za (zp zG58 hb)) (zA_ (za (hbox)) (zA_ (zN1 w.heap.size hg (zs zG58)) (zN1 w.heap.size hg (zs zG58)))); clear HB; obtain ⟨HB, BK193, GW193, GE193⟩ := n_; clear hb hbox hg) | ((with_reducible refine gate_callee (f := 22) rfl ?_); refine goesL_ (some 14) rfl rfl Try.func22 zG63 rfl #[.slice A1 l1.length c1] rfl zG54 ?_; (with_reducible refine (impl_CartAct.calls _ _ l1 false _ ?side1 ?side2 A3.out).mono ?_); (case side1 => exact zH22); (case side2 => exact HC1.out); rintro e w' ⟨rfl, ⟨nd, rfl⟩⟩; refine ⟨_, rfl, ?_⟩; (try (rw [drewN_self w46]; generalize hq_ : World.drewN w46 _ = w46; have n0_ : Aside0 (w46.heap[gb193]? = some (.cells #[.int .i64 0, .int .i64 0, .int .i64 0, .slice none 0 0] 30 (0, 0))) := ⟨by rw [← hq_]; exact zG59⟩; have n1_ : Aside0 (Below w.heap.size w w46) := ⟨by rw [← hq_]; exact zG56⟩; clear BK193 HB hq_; have BK193 := n0_; have HB := n1_; clear n0_ n1_)); (try have hcu47_0 : w46.cell? ⟨gb193, 0, none⟩ = some (.int .i64 0) := (zb BK193.out 0).trans rfl); (try have hcu47_1 : w46.cell? ⟨gb193, 1, none⟩ = some (.int .i64 0) := (zb BK193.out 1).trans rfl); (try have hcu47_2 : w46.cell? ⟨gb193, 2, none⟩ = some (.int .i64 0) := (zb BK193.out 2).trans rfl); (try have hcu47_3 : w46.cell? ⟨gb193, 3, none⟩ = some (.slice none 0 0) := (zb BK193.out 3).trans rfl); (try have hfcu47_0 := zd BK193.out 0); (try have hfcu47_1 := zd BK193.out 1); (try have hfcu47_2 := zd BK193.out 2); (try have hfcu47_3 := zd BK193.out 3); obtain ⟨hcz48_0, hcz48_1, hcz48_2, hcz48_3, hfz48_0, hfz48_1, hfz48_2, hfz48_3⟩ := zB4 BK193.out))
  refine bodyPost_ret (results_list (rs := [.tmp 4, .cell 5 30, .tmp 6]) rfl (by simp) (.tmp (.cell gb193 30 #[.int .i64 0, .int .i64 0, .int .i64 0, .slice none 0 0] (0, 0) _ rfl zK40 Try.underlying30 rfl zG63 (.tmp .nil)))) rfl ?_
  exact zH3

 subst c4
 have H1 : ((impl_within.f a0 0 100000).bind fun t195 => (if t195 = true then (if (l1.length : Int) > 200 then (some (([] : List (S34)), 0, 0, 0, ([] : List (S36)), 9)) else (impl_CartRun.l0 k (([] : List (S34))) l1 (l1.length : Int) 0 0 a0 0 ([] : List (S36)))) else (some (([] : List (S34)), 0, 0, 0, ([] : List (S36)), 5)))) = some (r1, r2, r3, r4, r5, r6) := by rw [if_pos rfl] at H; exact H
 clear H
 have H := H1
 clear H1
 replace H := Option.bind_eq_some_iff.mp H
 obtain ⟨t195, A50, H⟩ := H
 replace H : (if t195 = true then (if (l1.length : Int) > 200 then (some (([] : List (S34)), 0, 0, 0, ([] : List (S36)), 9)) else (impl_CartRun.l0 k (([] : List (S34))) l1 (l1.length : Int) 0 0 a0 0 ([] : List (S36)))) else (some (([] : List (S34)), 0, 0, 0, ([] : List (S36)), 5))) = some (r1, r2, r3, r4, r5, r6) := H
 have A5 := za A50
 clear A50
 by_cases c6 : t195 = true
 rotate_left
 ·replace c6 := Bool.eq_false_iff.mpr c6
  subst c6
  have H1 : (some (([] : List (S34)), 0, 0, 0, ([] : List (S36)), 5)) = some (r1, r2, r3, r4, r5, r6) := by rw [if_neg (show ¬ (false = true) by decide)] at H; exact H
  clear H
  have H := H1
  clear H1
  simp only [Option.some.injEq, Prod.mk.injEq] at H
  obtain ⟨rfl, rfl, rfl, rfl, rfl, rfl⟩ := H
  go_enter Try.func7, Try.ntmps7
  go_wp2_with (first | ((with_reducible refine gate_dst (N := 5) rfl ?_); refine box_event ?hg (N := 5) ?hd (cs := #[.int .i64 0, .int .i64 0, .int .i64 0, .slice none 0 0]) (t := 30) ?hr ?_; (case hd => rfl); (case hg => rfl); (case hr => exact zH37); intro gb193 hg w42 hbox hb; have n_ := zA_ (za (zp zG58 hb)) (zA_ (za (hbox)) (zA_ (zN1 w.heap.size hg (zs zG58)) (zN1 w.heap.size hg (zs zG58)))); clear HB; obtain ⟨HB, BK193, GW193, GE193⟩ := n_; clear hb hbox hg) | ((with_reducible refine gate_callee (f := 22) rfl ?_); refine goesL_ (some 14) rfl rfl Try.func22 zG63 rfl #[.slice A1 l1.length c1] rfl zG54 ?_; (with_reducible refine (impl_CartAct.calls _ _ l1 true _ ?side1 ?side2 A3.out).mono ?_); (case side1 => exact zH22); (case side2 => exact HC1.out); rintro e w' ⟨rfl, ⟨nd, rfl⟩⟩; refine ⟨_, rfl, ?_⟩; (try (rw [drewN_self w42]; generalize hq_ : World.drewN w42 _ = w42; have n0_ : Aside0 (w42.heap[gb193]? = some (.cells #[.int .i64 0, .int .i64 0, .int .i64 0, .slice none 0 0] 30 (0, 0))) := ⟨by rw [← hq_]; exact zG59⟩; have n1_ : Aside0 (Below w.heap.size w w42) := ⟨by rw [← hq_]; exact zG56⟩; clear BK193 HB hq_; have BK193 := n0_; have HB := n1_; clear n0_ n1_)); (try have hcu43_0 : w42.cell? ⟨gb193, 0, none⟩ = some (.int .i64 0) := (zb BK193.out 0).trans rfl); (try have hcu43_1 : w42.cell? ⟨gb193, 1, none⟩ = some (.int .i64 0) := (zb BK193.out 1).trans rfl); (try have hcu43_2 : w42.cell? ⟨gb193, 2, none⟩ = some (.int .i64 0) := (zb BK193.out 2).trans rfl); (try have hcu43_3 : w42.cell? ⟨gb193, 3, none⟩ = some (.slice none 0 0) := (zb BK193.out 3).trans rfl); (try have hfcu43_0 := zd BK193.out 0); (try have hfcu43_1 := zd BK193.out 1); (try have hfcu43_2 := zd BK193.out 2); (try have hfcu43_3 := zd BK193.out 3)) | ((with_reducible refine gate_callee (f := 23) rfl ?_); refine goesL_ (some 19) rfl rfl Try.func23 zG63 rfl #[.int .i64 a0, .int .i64 0, .int .i64 100000] rfl zG54 ?_; (with_reducible refine (impl_within.calls a0 0 100000 false _ A5.out).mono ?_); rintro e w' ⟨rfl, ⟨nd, rfl⟩⟩; refine ⟨_, rfl, ?_⟩; (try (rw [drewN_self w42]; generalize hq_ : World.drewN w42 _ = w42; have n0_ : Aside0 (w42.heap[gb193]? = some (.cells #[.int .i64 0, .int .i64 0, .int .i64 0, .slice none 0 0] 30 (0, 0))) := ⟨by rw [← hq_]; exact zG59⟩; have n1_ : Aside0 (Below w.heap.size w w42) := ⟨by rw [← hq_]; exact zG56⟩; clear BK193 HB hq_; have BK193 := n0_; have HB := n1_; clear n0_ n1_)); (try have hcu44_0 : w42.cell? ⟨gb193, 0, none⟩ = some (.int .i64 0) := (zb BK193.out 0).trans rfl); (try have hcu44_1 : w42.cell? ⟨gb193, 1, none⟩ = some (.int .i64 0) := (zb BK193.out 1).trans rfl); (try have hcu44_2 : w42.cell? ⟨gb193, 2, none⟩ = some (.int .i64 0) := (zb BK193.out 2).trans rfl); (try have hcu44_3 : w42.cell? ⟨gb193, 3, none⟩ = some (.slice none 0 0) := (zb BK193.out 3).trans rfl); (try have hfcu44_0 := zd BK193.out 0); (try have hfcu44_1 := zd BK193.out 1); (try have hfcu44_2 := zd BK193.out 2); (try have hfcu44_3 := zd BK193.out 3); obtain ⟨hcz45_0, hcz45_1, hcz45_2, hcz45_3, hfz45_0, hfz45_1, hfz45_2, hfz45_3⟩ := zB4 BK193.out))
  refine bodyPost_ret (results_list (rs := [.tmp 4, .cell 5 30, .tmp 6]) rfl (by simp) (.tmp (.cell gb193 30 #[.int .i64 0, .int .i64 0, .int .i64 0, .slice none 0 0] (0, 0) _ rfl zK40 Try.underlying30 rfl zG63 (.tmp .nil)))) rfl ?_
  exact zH3
 subst c6
 have H1 : (if (l1.length : Int) > 200 then (some (([] : List (S34)), 0, 0, 0, ([] : List (S36)), 9)) else (impl_CartRun.l0 k (([] : List (S34))) l1 (l1.length : Int) 0 0 a0 0 ([] : List (S36)))) = some (r1, r2, r3, r4, r5, r6) := by rw [if_pos rfl] at H; exact H
 clear H
 have H := H1
 clear H1
 by_cases c7 : (l1.length : Int) > 200
 ·rw [if_pos c7] at H
  have c7b0 : decide (200 < (l1.length : Int)) = true := decide_eq_true c7
  have c7b1 : decide (200 < l1.length) = true := decide_eq_true (by omega)
  clear c7
  simp only [Option.some.injEq, Prod.mk.injEq] at H
  obtain ⟨rfl, rfl, rfl, rfl, rfl, rfl⟩ := H
  go_enter Try.func7, Try.ntmps7
  go_wp2_with (first | ((with_reducible refine gate_dst (N := 5) rfl ?_); refine box_event ?hg (N := 5) ?hd (cs := #[.int .i64 0, .int .i64 0, .int .i64 0, .slice none 0 0]) (t := 30) ?hr ?_; (case hd => rfl); (case hg => rfl); (case hr => exact zH37); intro gb193 hg w8 hbox hb; have n_ := zA_ (za (zp zG58 hb)) (zA_ (za (hbox)) (zA_ (zN1 w.heap.size hg (zs zG58)) (zN1 w.heap.size hg (zs zG58)))); clear HB; obtain ⟨HB, BK193, GW193, GE193⟩ := n_; clear hb hbox hg) | ((with_reducible refine gate_callee (f := 22) rfl ?_); refine goesL_ (some 14) rfl rfl Try.func22 zG63 rfl #[.slice A1 l1.length c1] rfl zG54 ?_; (with_reducible refine (impl_CartAct.calls _ _ l1 true _ ?side1 ?side2 A3.out).mono ?_); (case side1 => exact zH22); (case side2 => exact HC1.out); rintro e w' ⟨rfl, ⟨nd, rfl⟩⟩; refine ⟨_, rfl, ?_⟩; (try (rw [drewN_self w8]; generalize hq_ : World.drewN w8 _ = w8; have n0_ : Aside0 (w8.heap[gb193]? = some (.cells #[.int .i64 0, .int .i64 0, .int .i64 0, .slice none 0 0] 30 (0, 0))) := ⟨by rw [← hq_]; exact zG59⟩; have n1_ : Aside0 (Below w.heap.size w w8) := ⟨by rw [← hq_]; exact zG56⟩; clear BK193 HB hq_; have BK193 := n0_; have HB := n1_; clear n0_ n1_)); (try have hcu9_0 : w8.cell? ⟨gb193, 0, none⟩ = some (.int .i64 0) := (zb BK193.out 0).trans rfl); (try have hcu9_1 : w8.cell? ⟨gb193, 1, none⟩ = some (.int .i64 0) := (zb BK193.out 1).trans rfl); (try have hcu9_2 : w8.cell? ⟨gb193, 2, none⟩ = some (.int .i64 0) := (zb BK193.out 2).trans rfl); (try have hcu9_3 : w8.cell? ⟨gb193, 3, none⟩ = some (.slice none 0 0) := (zb BK193.out 3).trans rfl); (try have hfcu9_0 := zd BK193.out 0); (try have hfcu9_1 := zd BK193.out 1); (try have hfcu9_2 := zd BK193.out 2); (try have hfcu9_3 := zd BK193.out 3)) | ((with_reducible refine gate_callee (f := 23) rfl ?_); refine goesL_ (some 19) rfl rfl Try.func23 zG63 rfl #[.int .i64 a0, .int .i64 0, .int .i64 100000] rfl zG54 ?_; (with_reducible refine (impl_within.calls a0 0 100000 true _ A5.out).mono ?_); rintro e w' ⟨rfl, ⟨nd, rfl⟩⟩; refine ⟨_, rfl, ?_⟩; (try (rw [drewN_self w8]; generalize hq_ : World.drewN w8 _ = w8; have n0_ : Aside0 (w8.heap[gb193]? = some (.cells #[.int .i64 0, .int .i64 0, .int .i64 0, .slice none 0 0] 30 (0, 0))) := ⟨by rw [← hq_]; exact zG59⟩; have n1_ : Aside0 (Below w.heap.size w w8) := ⟨by rw [← hq_]; exact zG56⟩; clear BK193 HB hq_; have BK193 := n0_; have HB := n1_; clear n0_ n1_)); (try have hcu10_0 : w8.cell? ⟨gb193, 0, none⟩ = some (.int .i64 0) := (zb BK193.out 0).trans rfl); (try have hcu10_1 : w8.cell? ⟨gb193, 1, none⟩ = some (.int .i64 0) := (zb BK193.out 1).trans rfl); (try have hcu10_2 : w8.cell? ⟨gb193, 2, none⟩ = some (.int .i64 0) := (zb BK193.out 2).trans rfl); (try have hcu10_3 : w8.cell? ⟨gb193, 3, none⟩ = some (.slice none 0 0) := (zb BK193.out 3).trans rfl); (try have hfcu10_0 := zd BK193.out 0); (try have hfcu10_1 := zd BK193.out 1); (try have hfcu10_2 := zd BK193.out 2); (try have hfcu10_3 := zd BK193.out 3); obtain ⟨hcz11_0, hcz11_1, hcz11_2, hcz11_3, hfz11_0, hfz11_1, hfz11_2, hfz11_3⟩ := zB4 BK193.out))
  refine bodyPost_ret (results_list (rs := [.tmp 4, .cell 5 30, .tmp 6]) rfl (by simp) (.tmp (.cell gb193 30 #[.int .i64 0, .int .i64 0, .int .i64 0, .slice none 0 0] (0, 0) _ rfl zK40 Try.underlying30 rfl zG63 (.tmp .nil)))) rfl ?_
  exact zH3
 rw [if_neg c7] at H
 have c7b0 : decide (200 < (l1.length : Int)) = false := decide_eq_false c7
 have c7b1 : decide (200 < l1.length) = false := decide_eq_false (by omega)
 clear c7
 obtain ⟨y196, hy196⟩ : ∃ y_ : List (S34), y_ = (([] : List (S34))) := ⟨_, rfl⟩
 replace H : (impl_CartRun.l0 k y196 l1 (l1.length : Int) 0 0 a0 0 ([] : List (S36))) = some (r1, r2, r3, r4, r5, r6) := by first | (rw [hy196]; with_reducible exact H) | (have H2_ := (Option.bind_some _ _).symm.trans H; rw [hy196]; with_reducible exact H2_) | (have H2_ := (Option.bind_some _ _).symm.trans H; with_reducible exact H2_) | with_reducible exact H | (rw [hy196]; exact H) | exact H
 have Ny196 := za hy196
 clear hy196
 have H' := za H
 clear H
 go_enter Try.func7, Try.ntmps7
 go_wp2_with (first | ((with_reducible refine gate_dst (N := 5) rfl ?_); refine box_event ?hg (N := 5) ?hd (cs := #[.int .i64 0, .int .i64 0, .int .i64 0, .slice none 0 0]) (t := 30) ?hr ?_; (case hd => rfl); (case hg => rfl); (case hr => exact zH37); intro gb193 hg w12 hbox hb; have n_ := zA_ (za (zp zG58 hb)) (zA_ (za (hbox)) (zA_ (zN1 w.heap.size hg (zs zG58)) (zN1 w.heap.size hg (zs zG58)))); clear HB; obtain ⟨HB, BK193, GW193, GE193⟩ := n_; clear hb hbox hg) | ((with_reducible refine gate_callee (f := 22) rfl ?_); refine goesL_ (some 14) rfl rfl Try.func22 zG63 rfl #[.slice A1 l1.length c1] rfl zG54 ?_; (with_reducible refine (impl_CartAct.calls _ _ l1 true _ ?side1 ?side2 A3.out).mono ?_); (case side1 => exact zH22); (case side2 => exact HC1.out); rintro e w' ⟨rfl, ⟨nd, rfl⟩⟩; refine ⟨_, rfl, ?_⟩; (try (rw [drewN_self w12]; generalize hq_ : World.drewN w12 _ = w12; have n0_ : Aside0 (w12.heap[gb193]? = some (.cells #[.int .i64 0, .int .i64 0, .int .i64 0, .slice none 0 0] 30 (0, 0))) := ⟨by rw [← hq_]; exact zG59⟩; have n1_ : Aside0 (Below w.heap.size w w12) := ⟨by rw [← hq_]; exact zG56⟩; clear BK193 HB hq_; have BK193 := n0_; have HB := n1_; clear n0_ n1_)); (try have hcu13_0 : w12.cell? ⟨gb193, 0, none⟩ = some (.int .i64 0) := (zb BK193.out 0).trans rfl); (try have hcu13_1 : w12.cell? ⟨gb193, 1, none⟩ = some (.int .i64 0) := (zb BK193.out 1).trans rfl); (try have hcu13_2 : w12.cell? ⟨gb193, 2, none⟩ = some (.int .i64 0) := (zb BK193.out 2).trans rfl); (try have hcu13_3 : w12.cell? ⟨gb193, 3, none⟩ = some (.slice none 0 0) := (zb BK193.out 3).trans rfl); (try have hfcu13_0 := zd BK193.out 0); (try have hfcu13_1 := zd BK193.out 1); (try have hfcu13_2 := zd BK193.out 2); (try have hfcu13_3 := zd BK193.out 3)) | ((with_reducible refine gate_callee (f := 23) rfl ?_); refine goesL_ (some 19) rfl rfl Try.func23 zG63 rfl #[.int .i64 a0, .int .i64 0, .int .i64 100000] rfl zG54 ?_; (with_reducible refine (impl_within.calls a0 0 100000 true _ A5.out).mono ?_); rintro e w' ⟨rfl, ⟨nd, rfl⟩⟩; refine ⟨_, rfl, ?_⟩; (try (rw [drewN_self w12]; generalize hq_ : World.drewN w12 _ = w12; have n0_ : Aside0 (w12.heap[gb193]? = some (.cells #[.int .i64 0, .int .i64 0, .int .i64 0, .slice none 0 0] 30 (0, 0))) := ⟨by rw [← hq_]; exact zG59⟩; have n1_ : Aside0 (Below w.heap.size w w12) := ⟨by rw [← hq_]; exact zG56⟩; clear BK193 HB hq_; have BK193 := n0_; have HB := n1_; clear n0_ n1_)); (try have hcu14_0 : w12.cell? ⟨gb193, 0, none⟩ = some (.int .i64 0) := (zb BK193.out 0).trans rfl); (try have hcu14_1 : w12.cell? ⟨gb193, 1, none⟩ = some (.int .i64 0) := (zb BK193.out 1).trans rfl); (try have hcu14_2 : w12.cell? ⟨gb193, 2, none⟩ = some (.int .i64 0) := (zb BK193.out 2).trans rfl); (try have hcu14_3 : w12.cell? ⟨gb193, 3, none⟩ = some (.slice none 0 0) := (zb BK193.out 3).trans rfl); (try have hfcu14_0 := zd BK193.out 0); (try have hfcu14_1 := zd BK193.out 1); (try have hfcu14_2 := zd BK193.out 2); (try have hfcu14_3 := zd BK193.out 3)) | ((with_reducible refine gate_dst (N := 29) rfl ?_); refine Kd.R_lit k34 _ 34 ?hg (N := 29) ?hd (xs := ([] : List (S34))) (inner := []) (ok := fun _ => True) (okp := fun _ => True) ?hr ?hp (fun _ hk => hk) trivial (Below.refl _ _) (Nat.le_refl _) (by simp) ?_; (case hd => rfl); (case hg => rfl); (case hr => exact zH37); (case hp => exact (Reps.none _ _)); intro v197 w15 ho16 hb hg_ hnew_; clear hg_ hnew_; (first | rw [← Ny196.out] at ho16 | (simp only [Int.reduceToNat] at ho16; rw [← Ny196.out] at ho16)); have n_ := zA_ (za (zah ho16 (zs zG56))) (zA_ (za (zu (g := gb193) (o := .cells #[.int .i64 0, .int .i64 0, .int .i64 0, .slice none 0 0] 30 (0, 0)) zG59 hb)) (za (zp zG56 hb))); clear BK193 HB; obtain ⟨HO198, BK193, HB⟩ := n_; clear hb ho16) | ((with_reducible refine gate_dst (N := 7) rfl ?_); refine box_event ?hg (N := 7) ?hd (cs := #[.int .i64 0, .int .i64 0, .int .i64 0, .slice none 0 0]) (t := 30) ?hr ?_; (case hd => rfl); (case hg => rfl); (case hr => exact zH37); intro gb199 hg w17 hbox hb; have n_ := zA_ (za (zt (by (with_reducible repeat (first | apply zl | apply zk | apply zm)); exact HO198.out) hb)) (zA_ (za (zu (g := gb193) (o := .cells #[.int .i64 0, .int .i64 0, .int .i64 0, .slice none 0 0] 30 (0, 0)) zG59 hb)) (zA_ (za (zp zG56 hb)) (zA_ (za (hbox)) (zA_ (zN1 w.heap.size hg (zs zG56)) (zA_ (zN1 w.heap.size hg (zs zG56)) (zN2 hg (zac (g := gb193) (o := .cells #[.int .i64 0, .int .i64 0, .int .i64 0, .slice none 0 0] 30 (0, 0)) zG59))))))); clear HO198 BK193 HB; obtain ⟨HO198, BK193, HB, BK199, GW199, GE199, NB193_199, NB199_193⟩ := n_; clear hb hbox hg; have hnb18 := NB199_193.out; have hnc18 := NB193_199.out; obtain ⟨hcz19_0, hcz19_1, hcz19_2, hcz19_3, hfz19_0, hfz19_1, hfz19_2, hfz19_3⟩ := zB4 BK199.out))
 go_loopg [8, 32] k (fun kq v8 v32 w' => ∃ (x8_1 : List (S34)) (x32_1 : Int) (x200000_1 : Int) (x200001_1 : Int) (x200002_1 : Int) (x200003_1 : List (S36)) (u200003 : Value), v32 = .int .i64 x32_1 ∧ Aside0 (impl_CartRun.l0 kq x8_1 l1 (l1.length : Int) x32_1 x200000_1 x200001_1 x200002_1 x200003_1 = some (r1, r2, r3, r4, r5, r6)) ∧ Aside0 (kq ≤ k) ∧ Aside0 (Kd.R k34 34 w' w.heap.size (fun _ => True) v8 x8_1) ∧ Aside0 (Kd.R k36 36 w' w.heap.size (fun _ => True) u200003 x200003_1) ∧ Aside0 (w'.heap[gb193]? = some (.cells #[.int .i64 0, .int .i64 0, .int .i64 0, (.slice none 0 0)] 30 (0, 0))) ∧ Aside0 (w'.heap[gb199]? = some (.cells #[.int .i64 x200000_1, .int .i64 x200001_1, .int .i64 x200002_1, u200003] 30 (0, 0))) ∧ Aside0 (Below w.heap.size w w'))
 case atStart => exact ⟨(y196), (0), (0), (a0), (0), (([] : List (S36))), (.slice none 0 0), zK71, H', ⟨Nat.le_refl _⟩, ⟨by (with_reducible repeat (first | apply zl | apply zk | apply zm)); exact zn (zq (p := ⟨gb199, 3, none⟩) (zq (p := ⟨gb199, 2, none⟩) (zq (p := ⟨gb199, 1, none⟩) (zq (p := ⟨gb199, 0, none⟩) (zae HO198.out BK199.out zG64) (fun _ hk => hk.2) (.int .i64 0)) (fun _ hk => hk.2) (.int .i64 a0)) (fun _ hk => hk.2) (.int .i64 0)) (fun _ hk => hk.2) (.slice none 0 0)) (fun _ hk => trivial)⟩, ⟨by first | exact zav _ _ _ _ _ | exact zaw _ _ _ _ _ | exact zax _ _ _ _ _ | exact zay _ _ _ _ _ | exact zaz _ _ _ _ _⟩, ⟨by (with_reducible repeat (first | refine zh ?_ _ | refine zj ?_ | refine zg ?_ _)); refine zak ?_ NB193_199.out _; (with_reducible repeat (first | refine zh ?_ _ | refine zj ?_ | refine zg ?_ _)); refine zak ?_ NB193_199.out _; (with_reducible repeat (first | refine zh ?_ _ | refine zj ?_ | refine zg ?_ _)); refine zak ?_ NB193_199.out _; (with_reducible repeat (first | refine zh ?_ _ | refine zj ?_ | refine zg ?_ _)); refine zak ?_ NB193_199.out _; (with_reducible repeat (first | refine zh ?_ _ | refine zj ?_ | refine zg ?_ _)); exact BK193.out⟩, ⟨by (with_reducible repeat (first | refine zh ?_ _ | refine zj ?_ | refine zg ?_ _)); refine zr (cs := #[.int .i64 0, .int .i64 a0, .int .i64 0, .slice none 0 0]) ?_ 3 _ rfl; (with_reducible repeat (first | refine zh ?_ _ | refine zj ?_ | refine zg ?_ _)); refine zr (cs := #[.int .i64 0, .int .i64 a0, .int .i64 0, .slice none 0 0]) ?_ 2 _ rfl; (with_reducible repeat (first | refine zh ?_ _ | refine zj ?_ | refine zg ?_ _)); refine zr (cs := #[.int .i64 0, .int .i64 0, .int .i64 0, .slice none 0 0]) ?_ 1 _ rfl; (with_reducible repeat (first | refine zh ?_ _ | refine zj ?_ | refine zg ?_ _)); refine zr (cs := #[.int .i64 0, .int .i64 0, .int .i64 0, .slice none 0 0]) ?_ 0 _ rfl; (with_reducible repeat (first | refine zh ?_ _ | refine zj ?_ | refine zg ?_ _)); exact BK199.out⟩, ⟨zH19⟩⟩
 case round =>
  clear H'
  try clear c1
  try clear c4
  try clear c6
  try clear c7
  try clear c7b0
  try clear c7b1
  try clear hcz11_0
  try clear hcz11_1
  try clear hcz11_2
  try clear hcz11_3
  try clear hcz19_0
  try clear hcz19_1
  try clear hcz19_2
  try clear hcz19_3
  try clear hfz11_0
  try clear hfz11_1
  try clear hfz11_2
  try clear hfz11_3
  try clear hfz19_0
  try clear hfz19_1
  try clear hfz19_2
  try clear hfz19_3
  obtain ⟨x8_1, x32_1, x200000_1, x200001_1, x200002_1, x200003_1, u200003, rfl, HA, HK1, HO_8, HO_200003, BK193, BK199, HB⟩ := hrel
  cases gk with
  | zero => exact absurd HA.out (by simp [impl_CartRun.l0])
  | succ k1 =>
   have H := HA.out
   clear HA
   simp only [impl_CartRun.l0] at H
   by_cases c20 : x32_1 < (l1.length : Int)
   ·rw [if_pos c20] at H
    have c20b0 := decide_eq_true c20
    clear c20
    by_cases c21 : 0 ≤ x32_1
    rotate_left
    ·rw [if_neg c21] at H
     exact absurd H (by simp)
    rw [if_pos c21] at H
    have c21b0 := decide_eq_true c21
    clear c21
    by_cases c22 : x32_1 < (l1.length : Int)
    rotate_left
    ·rw [if_neg c22] at H
     exact absurd H (by simp)
    rw [if_pos c22] at H
    have c22b0 := decide_eq_true c22
    clear c22
    replace H := Option.bind_eq_some_iff.mp H
    obtain ⟨⟨t202, t203, t204, t205, t206⟩, A230, H⟩ := H
    replace H : (if x8_1.length < 8796093022208 then (impl_CartRun.l0 k1 (x8_1 ++ [(⟨t202, t204⟩ : S34)]) l1 (l1.length : Int) (wrap64 (x32_1 + 1)) t203 t204 t205 t206) else (none)) = some (r1, r2, r3, r4, r5, r6) := H
    have A23 := za A230
    clear A230
    by_cases c24 : x8_1.length < 8796093022208
    rotate_left
    ·rw [if_neg c24] at H
     exact absurd H (by simp)
    rw [if_pos c24] at H
    have LMc24 := za c24
    clear c24
    obtain ⟨y209, hy209⟩ : ∃ y_ : List (S34), y_ = (x8_1 ++ [(⟨t202, t204⟩ : S34)]) := ⟨_, rfl⟩
    replace H : (impl_CartRun.l0 k1 y209 l1 (l1.length : Int) (wrap64 (x32_1 + 1)) t203 t204 t205 t206) = some (r1, r2, r3, r4, r5, r6) := by first | (rw [hy209]; with_reducible exact H) | (have H2_ := (Option.bind_some _ _).symm.trans H; rw [hy209]; with_reducible exact H2_) | (have H2_ := (Option.bind_some _ _).symm.trans H; with_reducible exact H2_) | with_reducible exact H | (rw [hy209]; exact H) | exact H
    have Ny209 := za hy209
    clear hy209
    have H' := za H
    clear H
    have p200 : 0 ≤ (x32_1 : Int) := zO
    have q200 : x32_1 < (l1.length : Int) := zO
    obtain ⟨ad200, e200, hx200_0, hx200_1, hx200_2, hx200_3⟩ := at_T54 HR1.out x32_1 p200 q200
    cases e200
    replace hx200_0 := (HB.out.cell (zaj w _ hx200_0)).trans hx200_0
    replace hx200_1 := (HB.out.cell (zaj w _ hx200_1)).trans hx200_1
    replace hx200_2 := (HB.out.cell (zaj w _ hx200_2)).trans hx200_2
    replace hx200_3 := (HB.out.cell (zaj w _ hx200_3)).trans hx200_3
    replace p200 := eq_true p200
    replace q200 := eq_true q200
    go_wp2_with (first | ((with_reducible refine gate_dst (N := 10) rfl ?_); refine box_event ?hg (N := 10) ?hd (cs := #[.int .i64 0, .int .i64 0, .int .i64 0, .int .i64 0]) (t := 54) ?hr ?_; (case hd => rfl); (case hg => rfl); (case hr => exact zH37); intro gb201 hg w25 hbox hb; have n_ := zA_ (za (zt zK70 hb)) (zA_ (za (zt (by (with_reducible repeat (first | apply zl | apply zk | apply zm)); exact HO_200003.out) hb)) (zA_ (za (zu (g := gb193) (o := .cells #[.int .i64 0, .int .i64 0, .int .i64 0, .slice none 0 0] 30 (0, 0)) zG59 hb)) (zA_ (za (zu (g := gb199) (o := .cells #[.int .i64 x200000_1, .int .i64 x200001_1, .int .i64 x200002_1, u200003] 30 (0, 0)) zK61 hb)) (zA_ (za (zp zK52 hb)) (zA_ (za (hbox)) (zA_ (zN1 w.heap.size hg (zs zK52)) (zA_ (zN1 w.heap.size hg (zs zK52)) (zN3 hg (zac (g := gb193) (o := .cells #[.int .i64 0, .int .i64 0, .int .i64 0, .slice none 0 0] 30 (0, 0)) zG59) (zN2 hg (zac (g := gb199) (o := .cells #[.int .i64 x200000_1, .int .i64 x200001_1, .int .i64 x200002_1, u200003] 30 (0, 0)) zK61)))))))))); clear HO_8 HO_200003 BK193 BK199 HB; obtain ⟨HO_8, HO_200003, BK193, BK199, HB, BK201, GW201, GE201, NB193_201, NB201_193, NB199_201, NB201_199⟩ := n_; clear hb hbox hg; have hnb26 := NB201_193.out; have hnc26 := NB193_201.out; have hnb27 := NB201_199.out; have hnc27 := NB199_201.out; obtain ⟨hcz28_0, hcz28_1, hcz28_2, hcz28_3, hfz28_0, hfz28_1, hfz28_2, hfz28_3⟩ := zB4 BK201.out) | ((with_reducible refine gate_store (t := 54) (p := 10) rfl ?_); refine store_event (t := 54) (p := 10) (v := ?vo_w29) (w1 := ((((w25.setCell ⟨gb201, 0, none⟩ (.int .i64 ((rd_T54 l1 x32_1).f0))).setCell ⟨gb201, 1, none⟩ (.int .i64 ((rd_T54 l1 x32_1).f1))).setCell ⟨gb201, 2, none⟩ (.int .i64 ((rd_T54 l1 x32_1).f2))).setCell ⟨gb201, 3, none⟩ (.int .i64 ((rd_T54 l1 x32_1).f3)))) ?hg ?ho ?hn ?hr ?_; (case ho => rfl); (case hg => rfl); (case hn => rfl); (case hr => exact zH37); intro w29 hw; have n0_ : Aside0 (Kd.R k34 34 w29 w.heap.size (fun _ => True) u8 x8_1) := ⟨(by rw [hw]; exact (by (with_reducible repeat (first | apply zl | apply zk | apply zm)); exact zn (zq (p := ⟨gb201, 3, none⟩) (zq (p := ⟨gb201, 2, none⟩) (zq (p := ⟨gb201, 1, none⟩) (zq (p := ⟨gb201, 0, none⟩) (zae HO_8.out BK201.out zG64) (fun _ hk => hk.2) (.int .i64 ((rd_T54 l1 x32_1).f0))) (fun _ hk => hk.2) (.int .i64 ((rd_T54 l1 x32_1).f1))) (fun _ hk => hk.2) (.int .i64 ((rd_T54 l1 x32_1).f2))) (fun _ hk => hk.2) (.int .i64 ((rd_T54 l1 x32_1).f3))) (fun _ hk => trivial)))⟩; have n1_ : Aside0 (Kd.R k36 36 w29 w.heap.size (fun _ => True) u200003 x200003_1) := ⟨(by rw [hw]; exact (by (with_reducible repeat (first | apply zl | apply zk | apply zm)); exact zn (zq (p := ⟨gb201, 3, none⟩) (zq (p := ⟨gb201, 2, none⟩) (zq (p := ⟨gb201, 1, none⟩) (zq (p := ⟨gb201, 0, none⟩) (zae HO_200003.out BK201.out zG64) (fun _ hk => hk.2) (.int .i64 ((rd_T54 l1 x32_1).f0))) (fun _ hk => hk.2) (.int .i64 ((rd_T54 l1 x32_1).f1))) (fun _ hk => hk.2) (.int .i64 ((rd_T54 l1 x32_1).f2))) (fun _ hk => hk.2) (.int .i64 ((rd_T54 l1 x32_1).f3))) (fun _ hk => trivial)))⟩; have n2_ : Aside0 (w29.heap[gb193]? = some (.cells #[.int .i64 0, .int .i64 0, .int .i64 0, .slice none 0 0] 30 (0, 0))) := ⟨(by rw [hw]; exact (by (with_reducible repeat (first | refine zh ?_ _ | refine zj ?_ | refine zg ?_ _)); refine zak ?_ NB193_201.out _; (with_reducible repeat (first | refine zh ?_ _ | refine zj ?_ | refine zg ?_ _)); refine zak ?_ NB193_201.out _; (with_reducible repeat (first | refine zh ?_ _ | refine zj ?_ | refine zg ?_ _)); refine zak ?_ NB193_201.out _; (with_reducible repeat (first | refine zh ?_ _ | refine zj ?_ | refine zg ?_ _)); refine zak ?_ NB193_201.out _; (with_reducible repeat (first | refine zh ?_ _ | refine zj ?_ | refine zg ?_ _)); exact BK193.out))⟩; have n3_ : Aside0 (w29.heap[gb199]? = some (.cells #[.int .i64 x200000_1, .int .i64 x200001_1, .int .i64 x200002_1, u200003] 30 (0, 0))) := ⟨(by rw [hw]; exact (by (with_reducible repeat (first | refine zh ?_ _ | refine zj ?_ | refine zg ?_ _)); refine zak ?_ NB199_201.out _; (with_reducible repeat (first | refine zh ?_ _ | refine zj ?_ | refine zg ?_ _)); refine zak ?_ NB199_201.out _; (with_reducible repeat (first | refine zh ?_ _ | refine zj ?_ | refine zg ?_ _)); refine zak ?_ NB199_201.out _; (with_reducible repeat (first | refine zh ?_ _ | refine zj ?_ | refine zg ?_ _)); refine zak ?_ NB199_201.out _; (with_reducible repeat (first | refine zh ?_ _ | refine zj ?_ | refine zg ?_ _)); exact BK199.out))⟩; have n4_ : Aside0 (w29.heap[gb201]? = some (.cells #[.int .i64 ((rd_T54 l1 x32_1).f0), .int .i64 ((rd_T54 l1 x32_1).f1), .int .i64 ((rd_T54 l1 x32_1).f2), .int .i64 ((rd_T54 l1 x32_1).f3)] 54 (0, 0))) := ⟨(by rw [hw]; exact (by (with_reducible repeat (first | refine zh ?_ _ | refine zj ?_ | refine zg ?_ _)); refine zr (cs := #[.int .i64 ((rd_T54 l1 x32_1).f0), .int .i64 ((rd_T54 l1 x32_1).f1), .int .i64 ((rd_T54 l1 x32_1).f2), .int .i64 0]) ?_ 3 _ rfl; (with_reducible repeat (first | refine zh ?_ _ | refine zj ?_ | refine zg ?_ _)); refine zr (cs := #[.int .i64 ((rd_T54 l1 x32_1).f0), .int .i64 ((rd_T54 l1 x32_1).f1), .int .i64 0, .int .i64 0]) ?_ 2 _ rfl; (with_reducible repeat (first | refine zh ?_ _ | refine zj ?_ | refine zg ?_ _)); refine zr (cs := #[.int .i64 ((rd_T54 l1 x32_1).f0), .int .i64 0, .int .i64 0, .int .i64 0]) ?_ 1 _ rfl; (with_reducible repeat (first | refine zh ?_ _ | refine zj ?_ | refine zg ?_ _)); refine zr (cs := #[.int .i64 0, .int .i64 0, .int .i64 0, .int .i64 0]) ?_ 0 _ rfl; (with_reducible repeat (first | refine zh ?_ _ | refine zj ?_ | refine zg ?_ _)); exact BK201.out))⟩; have n5_ : Aside0 (Below w.heap.size w w29) := ⟨(by rw [hw]; exact zK48)⟩; clear hw HO_8; clear HO_200003 BK193; clear BK199 BK201 HB; have HO_8 := n0_; have HO_200003 := n1_; have BK193 := n2_; have BK199 := n3_; have BK201 := n4_; have HB := n5_; clear n0_ n1_ n2_ n3_ n4_ n5_; obtain ⟨hcz30_0, hcz30_1, hcz30_2, hcz30_3, hfz30_0, hfz30_1, hfz30_2, hfz30_3⟩ := zB4 BK201.out; obtain ⟨Ao31, co31, eo31⟩ := zab HO_200003.out; subst eo31) | ((with_reducible refine gate_callee (f := 24) rfl ?_); refine goesL_ (some 37) rfl rfl Try.func24 zG63 rfl #[.pointer (some ⟨gb199, 0, none⟩), .agg #[.int .i64 ((rd_T54 l1 x32_1).f0), .int .i64 ((rd_T54 l1 x32_1).f1), .int .i64 ((rd_T54 l1 x32_1).f2), .int .i64 ((rd_T54 l1 x32_1).f3)]] rfl zG54 ?_; (with_reducible refine (impl_Carts_do.calls k1 gb199 x200000_1 x200001_1 x200002_1 (fun k_ => some k_ = (.slice Ao31 x200003_1.length co31 : Value).ownBlock) (.slice Ao31 x200003_1.length co31) x200003_1 ((rd_T54 l1 x32_1).f0) ((rd_T54 l1 x32_1).f1) ((rd_T54 l1 x32_1).f2) ((rd_T54 l1 x32_1).f3) t202 t203 t204 t205 t206 w _ ?side1 ?side2 ?side3 ?side4 A23.out).mono ?_); (case side1 => repeat (first | (with_reducible first | exact HB.out | apply zf | apply zc | apply ze | refine zi ?_ GE193.out | refine zi ?_ GE199.out | refine zi ?_ GE201.out) | exact HB.out)); (case side2 => exact zK61); (case side3 => exact GE199.out); (case side4 => exact Kd.R_tight rfl HO_200003.out); rintro e w32 ⟨v207, rfl, ho0, hz0, hb, hkp⟩; refine ⟨_, rfl, ?_⟩; have n_ := zA_ (za (zn (ok' := fun k_ => True) (Kd.R_keptB ((zae (Kd.R_apart' HO_8.out (zat HO_200003.out) zG64) BK199.out zG64)) hkp (fun k_ hk_ hs_ => Or.elim hs_ (fun hs_ => (hk_.1.2) hs_) (fun e_ => (hk_.2) e_))) (fun k_ hk_ => trivial))) (zA_ (za (zaf zG59 hkp (fun hs_ => Or.elim hs_ (fun hs_ => (fun e_ => (zai HO_200003.out BK193.out zG64) e_) hs_) (fun e_ => NB193_199.out e_)))) (zA_ (za (hz0)) (zA_ (za (zaf (by (with_reducible repeat (first | refine zh ?_ _ | refine zj ?_ | refine zg ?_ _)); exact BK201.out) hkp (fun hs_ => Or.elim hs_ (fun hs_ => (fun e_ => (zai HO_200003.out BK201.out zG64) e_) hs_) (fun e_ => NB201_199.out e_)))) (zA_ (za (zn (ok' := fun k_ => True) ho0 (fun k_ hk_ => trivial))) (za (hb)))))); clear HO_8 BK193 BK199 BK201 HB HO_200003; obtain ⟨HO_8, BK193, BK199, BK201, HO208, HB⟩ := n_; (try clear hb); (try clear hkp); (try clear ho0); (try clear hz0); have hnb33 := NB199_193.out; have hnc33 := NB193_199.out; obtain ⟨hcz34_0, hcz34_1, hcz34_2, hcz34_3, hfz34_0, hfz34_1, hfz34_2, hfz34_3⟩ := zB4 BK199.out) | ((with_reducible refine gate_builtin (b := .append) (xs := #[.tmp 38, .tmp 43]) rfl ?_); at_builtin; refine Kd.R_append k34 (w0 := w) w.heap.size rfl (.tmp 38) (.tmp 43) 27 34 (.agg #[(.int .i64 0), (.int .i64 0)]) 16 rfl Try.underlying27 info34 rfl zG64 (by omega) u8 x8_1 (⟨t202, t204⟩ : S34) [.int .i64 t202, .int .i64 t204] (fun _ => True) (fun _ => False) rfl rfl ?aP (fun _ hk => hk.elim) ?aF ?aO ?aB ?aS ?aL ?_; (case aP => exact k34_mkM _ _ _ (⟨t202, t204⟩ : S34)); (case aB => exact zK48); (case aF => exact (fun _ _ => trivial)); (case aO => exact zK70); (case aS => exact (zs zK48)); (case aL => have := LMc24.out; omega); intro v210 w35 ho hb hg hat; rw [← Ny209.out] at ho; have n_ := zA_ (za (zar (g := gb193) (o := .cells #[.int .i64 0, .int .i64 0, .int .i64 0, .slice none 0 0] 30 (0, 0)) zG59 hg (zai HO_8.out BK193.out zG64))) (zA_ (za (zar (g := gb199) (o := .cells #[.int .i64 t203, .int .i64 t204, .int .i64 t205, v207] 30 (0, 0)) zK61 hg (zai HO_8.out BK199.out zG64))) (zA_ (za (zar (g := gb201) (o := .cells #[.int .i64 ((rd_T54 l1 x32_1).f0), .int .i64 ((rd_T54 l1 x32_1).f1), .int .i64 ((rd_T54 l1 x32_1).f2), .int .i64 ((rd_T54 l1 x32_1).f3)] 54 (0, 0)) (by (with_reducible repeat (first | refine zh ?_ _ | refine zj ?_ | refine zg ?_ _)); exact BK201.out) hg (zai HO_8.out BK201.out zG64))) (zA_ (za (Kd.R_over' (by (with_reducible repeat (first | apply zl | apply zk | apply zm)); exact HO208.out) (zat zK70) zG64 hg)) (zA_ (za (hb)) (za (ho)))))); clear BK193 BK199 BK201 HO208 HB HO_8; obtain ⟨BK193, BK199, BK201, HO208, HB, HO211⟩ := n_; clear ho hb hg hat))
    go_roundg k1
    case measure => have := HK1.out; omega
    case rel => exact ⟨(y209), (wrap64 (x32_1 + 1)), (t203), (t204), (t205), (t206), (v207), zK71, H', ⟨by have := HK1.out; omega⟩, ⟨by (with_reducible repeat (first | apply zl | apply zk | apply zm)); exact HO211.out⟩, ⟨by (with_reducible repeat (first | apply zl | apply zk | apply zm)); exact HO208.out⟩, ⟨by (with_reducible repeat (first | refine zh ?_ _ | refine zj ?_ | refine zg ?_ _)); exact BK193.out⟩, ⟨by (with_reducible repeat (first | refine zh ?_ _ | refine zj ?_ | refine zg ?_ _)); exact BK199.out⟩, ⟨by repeat (first | (with_reducible first | exact HB.out | apply zf | apply zc | apply ze | refine zi ?_ GE193.out | refine zi ?_ GE199.out | refine zi ?_ GE201.out) | exact HB.out)⟩⟩
   rw [if_neg c20] at H
   have c20b0 := decide_eq_false c20
   clear c20
   simp only [Option.some.injEq, Prod.mk.injEq] at H
   obtain ⟨rfl, rfl, rfl, rfl, rfl, rfl⟩ := H
   try go_wp2
   obtain ⟨n0_, n1_, n2_, n3_, n4_⟩ := zD5 (zm HO_8.out) (zm HO_200003.out) (zj BK193.out) (zj BK199.out) (ze HB.out)
   clear HO_8 HO_200003 BK193 BK199 HB
   have HO_8 := n0_
   have HO_200003 := n1_
   have BK193 := n2_
   have BK199 := n3_
   have HB := n4_
   clear n0_ n1_ n2_ n3_ n4_
   obtain ⟨Ao40, co40, eo40⟩ := zab HO_200003.out
   (first | subst eo40 | (injection eo40 with f1_ f2_ f3_; have f4_ := f1_.symm; have f5_ := f3_.symm; clear f1_ f2_ f3_; subst f4_; subst f5_))
   refine start_ (n := 5) (S := fun w' => w'.cell? ⟨gb199, 0, none⟩ = some (.int .i64 x200000_1) ∧ w'.cell? ⟨gb199, 1, none⟩ = some (.int .i64 x200001_1) ∧ w'.cell? ⟨gb199, 2, none⟩ = some (.int .i64 x200002_1) ∧ w'.cell? ⟨gb199, 3, none⟩ = some (.slice Ao40 x200003_1.length co40)) (ds := []) #[false, false, false, false, false] zG63 rfl rfl ⟨(zb BK199.out 0).trans rfl, (zb BK199.out 1).trans rfl, (zb BK199.out 2).trans rfl, (zb BK199.out 3).trans rfl⟩ (fun hHeld => ?_)
   generalize wr.drew = w36 at HO_8 HO_200003 BK193 BK199 HB hHeld ⊢
   refine pure_ (i := 0) (N := some 46) (v := ?_) (a' := ?_) #[true, false, false, false, false] rfl rfl zG63 (fun _ _ _ h => h) (Or.inl ⟨by rfl, ?_⟩) ?_ ?_
   rotate_left
   ·intro w'
    go_simp
    with_reducible rfl
   rotate_left
   ·simp only [Act.put, List.setIfInBounds_toArray, List.set_cons_zero, List.set_cons_succ, i64_w, i32_w]
    rfl
   refine pure_ (i := 2) (N := some 4) (v := ?_) (a' := ?_) #[true, false, true, false, false] rfl rfl zG63 (fun _ _ _ h => h) (Or.inl ⟨by rfl, ?_⟩) ?_ ?_
   rotate_left
   ·intro w'
    go_simp
    with_reducible rfl
   rotate_left
   ·simp only [Act.put, List.setIfInBounds_toArray, List.set_cons_zero, List.set_cons_succ, i64_w, i32_w]
    rfl
   refine take_ (i := 1) (N := some 47) (v := ?_) (a' := ?_) #[true, true, true, false, false] rfl rfl zG63 (fun _ _ _ h => h) (Or.inl ⟨by rfl, ?_⟩) hHeld ?_ ?_
   rotate_left
   ·rintro w' ⟨s0, s1, s2, s3⟩
    go_simp
    with_reducible rfl
   rotate_left
   ·simp only [Act.put, List.setIfInBounds_toArray, List.set_cons_zero, List.set_cons_succ, i64_w, i32_w]
    rfl
   refine one_ (i := 3) (N := none) #[true, true, true, true, false] rfl rfl zG63 zG64 (fun K hK => ?_)
   have hs37 : w36.cell? ⟨gb193, 0, none⟩ = some (.int .i64 0) := (zb BK193.out 0).trans rfl
   have hfs37 := zd BK193.out 0
   have hns37_1 := NB199_193.out
   have hms37_1 := NB193_199.out
   have hs38 : w36.cell? ⟨gb193, 1, none⟩ = some (.int .i64 0) := (zb BK193.out 1).trans rfl
   have hfs38 := zd BK193.out 1
   have hns38_1 := NB199_193.out
   have hms38_1 := NB193_199.out
   have hs39 : w36.cell? ⟨gb193, 2, none⟩ = some (.int .i64 0) := (zb BK193.out 2).trans rfl
   have hfs39 := zd BK193.out 2
   have hns39_1 := NB199_193.out
   have hms39_1 := NB193_199.out
   have hs41 : w36.cell? ⟨gb193, 3, none⟩ = some (.slice none 0 0) := (zb BK193.out 3).trans rfl
   have hfs41 := zd BK193.out 3
   have hns41_1 := NB199_193.out
   have hms41_1 := NB193_199.out
   refine skip_ (w1 := ?_) (by rfl) rfl ?_ ?_
   rotate_left
   ·go_simp
    rfl
   refine hK.out _ _ ⟨((cell_far (p := ⟨gb193, _, none⟩) NB199_193.out _).trans (((cell_far (p := ⟨gb193, _, none⟩) NB199_193.out _).trans (((cell_far (p := ⟨gb193, _, none⟩) NB199_193.out _).trans (((cell_far (p := ⟨gb193, _, none⟩) NB199_193.out _).trans (hHeld.1)))))))), ((cell_far (p := ⟨gb193, _, none⟩) NB199_193.out _).trans (((cell_far (p := ⟨gb193, _, none⟩) NB199_193.out _).trans (((cell_far (p := ⟨gb193, _, none⟩) NB199_193.out _).trans (((cell_far (p := ⟨gb193, _, none⟩) NB199_193.out _).trans (hHeld.2.1)))))))), ((cell_far (p := ⟨gb193, _, none⟩) NB199_193.out _).trans (((cell_far (p := ⟨gb193, _, none⟩) NB199_193.out _).trans (((cell_far (p := ⟨gb193, _, none⟩) NB199_193.out _).trans (((cell_far (p := ⟨gb193, _, none⟩) NB199_193.out _).trans (hHeld.2.2.1)))))))), ((cell_far (p := ⟨gb193, _, none⟩) NB199_193.out _).trans (((cell_far (p := ⟨gb193, _, none⟩) NB199_193.out _).trans (((cell_far (p := ⟨gb193, _, none⟩) NB199_193.out _).trans (((cell_far (p := ⟨gb193, _, none⟩) NB199_193.out _).trans (hHeld.2.2.2))))))))⟩ (fun hHeld => ?_)
   clear hK K
   refine pure_ (i := 4) (N := some 6) (v := ?_) (a' := ?_) #[true, true, true, true, true] rfl rfl zG63 (fun _ _ _ h => h) (Or.inl ⟨by rfl, ?_⟩) ?_ ?_
   rotate_left
   ·intro w'
    go_simp
    with_reducible rfl
   rotate_left
   ·simp only [Act.put, List.setIfInBounds_toArray, List.set_cons_zero, List.set_cons_succ, i64_w, i32_w]
    rfl
   refine done_ zG63 ?_
   try go_wp2
   refine bodyPost_ret (results_list (rs := [.tmp 4, .cell 5 30, .tmp 6]) rfl (by simp) (.tmp (.cell gb193 30 #[.int .i64 x200000_1, .int .i64 x200001_1, .int .i64 x200002_1, .slice Ao40 x200003_1.length co40] (0, 0) _ rfl (by (with_reducible repeat (first | refine zh ?_ _ | refine zj ?_ | refine zg ?_ _)); refine zr (cs := #[.int .i64 x200000_1, .int .i64 x200001_1, .int .i64 x200002_1, .slice none 0 0]) ?_ 3 _ rfl; (with_reducible repeat (first | refine zh ?_ _ | refine zj ?_ | refine zg ?_ _)); refine zr (cs := #[.int .i64 x200000_1, .int .i64 x200001_1, .int .i64 0, .slice none 0 0]) ?_ 2 _ rfl; (with_reducible repeat (first | refine zh ?_ _ | refine zj ?_ | refine zg ?_ _)); refine zr (cs := #[.int .i64 x200000_1, .int .i64 0, .int .i64 0, .slice none 0 0]) ?_ 1 _ rfl; (with_reducible repeat (first | refine zh ?_ _ | refine zj ?_ | refine zg ?_ _)); refine zr (cs := #[.int .i64 0, .int .i64 0, .int .i64 0, .slice none 0 0]) ?_ 0 _ rfl; (with_reducible repeat (first | refine zh ?_ _ | refine zj ?_ | refine zg ?_ _)); exact BK193.out) Try.underlying30 rfl zG63 (.tmp .nil)))) rfl ?_
   exact ⟨_, _, zH33, by (with_reducible repeat (first | apply zl | apply zk | apply zm)); exact zn (zq (p := ⟨gb193, 3, none⟩) (zq (p := ⟨gb193, 2, none⟩) (zq (p := ⟨gb193, 1, none⟩) (zq (p := ⟨gb193, 0, none⟩) (zae HO_8.out BK193.out zG64) (fun _ hk => hk.2) (.int .i64 x200000_1)) (fun _ hk => hk.2) (.int .i64 x200001_1)) (fun _ hk => hk.2) (.int .i64 x200002_1)) (fun _ hk => hk.2) (.slice Ao40 x200003_1.length co40)) (fun _ hk => trivial), by (with_reducible repeat (first | apply zl | apply zk | apply zm)); exact zn (zq (p := ⟨gb193, 3, none⟩) (zq (p := ⟨gb193, 2, none⟩) (zq (p := ⟨gb193, 1, none⟩) (zq (p := ⟨gb193, 0, none⟩) (zae HO_200003.out BK193.out zG64) (fun _ hk => hk.2) (.int .i64 x200000_1)) (fun _ hk => hk.2) (.int .i64 x200001_1)) (fun _ hk => hk.2) (.int .i64 x200002_1)) (fun _ hk => hk.2) (.slice Ao40 x200003_1.length co40)) (fun _ hk => trivial), zH19⟩
end Go.Proofs.Ytdohpbhljifodaa.D
