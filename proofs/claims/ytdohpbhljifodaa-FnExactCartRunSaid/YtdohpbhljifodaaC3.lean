-- squeezed
-- made by pp.py (wip/tools) out of the translation; Lean checks it
import Derived.Test.YtdohpbhljifodaaC0
import Derived.Test.YtdohpbhljifodaaC1
import Derived.Test.YtdohpbhljifodaaC2
namespace Go.Proofs.Ytdohpbhljifodaa.C
open Go.RowKit Go.Proofs.YtdohpbhljifodaaW.PrintWords Go.Proofs.YtdohpbhljifodaaW.PrintLast Go.Proofs.YtdohpbhljifodaaW.PrintMore
attribute [local go_sem] max2_int min2_int max_two min_two max_three min_three max_four min_four   -- for this text's walks alone
set_option linter.unusedVariables false
set_option linter.unusedSimpArgs false


/-! ### impl_CartRun: function 7 -/
def impl_CartRun.l0 : Nat → List (S34) → List (S54) → Int → Int → Int → Int → Int → List (S36) → Option ((List (S34)) × Int × Int × Int × (List (S36)) × Int)
 | 0, _, _, _, _, _, _, _, _ => none
 | k + 1, x8, x30, x31, x32, x115000, x115001, x115002, x115003 => if x32 < x31 then (if 0 ≤ x32 then (if x32 < (x30.length : Int) then ((impl_Carts_do.f k x115000 x115001 x115002 x115003 ((rd_T54 x30 x32).f0) ((rd_T54 x30 x32).f1) ((rd_T54 x30 x32).f2) ((rd_T54 x30 x32).f3)).bind fun bt117 => (if x8.length < 8796093022208 then (impl_CartRun.l0 k (x8 ++ [(⟨bt117.1, bt117.2.2.1⟩ : S34)]) x30 x31 (wrap64 (x32 + 1)) bt117.2.1 bt117.2.2.1 bt117.2.2.2.1 bt117.2.2.2.2) else (none))) else (none)) else (none)) else (some (x8, x115000, x115001, x115002, x115003, 0))
def impl_CartRun.f (k : Nat) (a0 : Int) (l1 : List (S54)) : Option ((List (S34)) × Int × Int × Int × (List (S36)) × Int) := (impl_CartAct.f l1).bind fun t109 => (if t109 = true then ((impl_within.f a0 0 100000).bind fun t110 => (if t110 = true then (if (l1.length : Int) > 200 then (some (([] : List (S34)), 0, 0, 0, ([] : List (S36)), 9)) else (impl_CartRun.l0 k (([] : List (S34))) l1 (l1.length : Int) 0 0 a0 0 ([] : List (S36)))) else (some (([] : List (S34)), 0, 0, 0, ([] : List (S36)), 5)))) else (some (([] : List (S34)), 0, 0, 0, ([] : List (S36)), 2)))
theorem impl_CartRun.mono_l : ∀ k, (∀ y0 y1 y2 y3 y4 y5 y6 y7, LeO (impl_CartRun.l0 k y0 y1 y2 y3 y4 y5 y6 y7) (impl_CartRun.l0 (k + 1) y0 y1 y2 y3 y4 y5 y6 y7))
 | 0 => fun _ _ _ _ _ _ _ _ r h => by simp [impl_CartRun.l0] at h
 | k + 1 => by
  have ih0 := impl_CartRun.mono_l k
  ·intro y0 y1 y2 y3 y4 y5 y6 y7
   unfold impl_CartRun.l0
   repeat' first
   | (with_reducible exact ih0 _ _ _ _ _ _ _ _)
   | (with_reducible exact impl_Carts_do.mono _ _ _ _ _ _ _ _ _)
   | (with_reducible exact LeO.refl _)
   | (with_reducible exact LeO.none _)
   | (with_reducible refine LeO.ite ?_ ?_)
   | (with_reducible refine LeO.bind ?_ (fun _ => ?_))
   | exact ih0 _ _ _ _ _ _ _ _
   | exact impl_Carts_do.mono _ _ _ _ _ _ _ _ _
   | exact LeO.none _
   | refine LeO.ite ?_ ?_
   | refine LeO.bind ?_ (fun _ => ?_)
theorem impl_CartRun.mono : ∀ a0 a1 k, LeO (impl_CartRun.f k a0 a1) (impl_CartRun.f (k + 1) a0 a1) := by
 intro a0 a1 k
 have ih0 := impl_CartRun.mono_l k
 unfold impl_CartRun.f
 repeat' first
   | (with_reducible exact ih0 _ _ _ _ _ _ _ _)
   | (with_reducible exact impl_Carts_do.mono _ _ _ _ _ _ _ _ _)
   | (with_reducible exact LeO.refl _)
   | (with_reducible exact LeO.none _)
   | (with_reducible refine LeO.ite ?_ ?_)
   | (with_reducible refine LeO.bind ?_ (fun _ => ?_))
   | exact ih0 _ _ _ _ _ _ _ _
   | exact impl_Carts_do.mono _ _ _ _ _ _ _ _ _
   | exact LeO.none _
   | refine LeO.ite ?_ ?_
   | refine LeO.bind ?_ (fun _ => ?_)
set_option maxHeartbeats 64000000 in
set_option maxRecDepth 100000 in
theorem impl_CartRun.calls (k : Nat) (a0 : Int) (A1 : Option Addr) (c1 : Nat) (l1 : List (S54)) (r1 : List (S34)) (r2 : Int) (r3 : Int) (r4 : Int) (r5 : List (S36)) (r6 : Int) (w : World) (hr1 : Kd.C k54 w A1 l1.length l1) (hc1 : l1.length ≤ c1) (h : impl_CartRun.f k a0 l1 = some (r1, r2, r3, r4, r5, r6)) :
  Calls Try.prog 7 #[.int .i64 a0, .slice A1 l1.length c1] w fun e w' => ∃ v0_ v4_ : Value, e = .returned (.tuple #[v0_, .agg #[.int .i64 r2, .int .i64 r3, .int .i64 r4, v4_], .int .i64 r6]) ∧ Kd.R k34 34 w' w.heap.size (fun _ => True) v0_ r1 ∧ Kd.R k36 36 w' w.heap.size (fun _ => True) v4_ r5 ∧ Below w.heap.size w w' := by
 have hu30 := Try.underlying30
 have hu54 := Try.underlying54
 have hu34 := Try.underlying34
 obtain ⟨HR1, HC1, HB⟩ := zD3 hr1 hc1 (Below.refl w.heap.size w)
 clear hr1 hc1
 have H : ((impl_CartAct.f l1).bind fun t109 => (if t109 = true then ((impl_within.f a0 0 100000).bind fun t110 => (if t110 = true then (if (l1.length : Int) > 200 then (some (([] : List (S34)), 0, 0, 0, ([] : List (S36)), 9)) else (impl_CartRun.l0 k (([] : List (S34))) l1 (l1.length : Int) 0 0 a0 0 ([] : List (S36)))) else (some (([] : List (S34)), 0, 0, 0, ([] : List (S36)), 5)))) else (some (([] : List (S34)), 0, 0, 0, ([] : List (S36)), 2)))) = some (r1, r2, r3, r4, r5, r6) := h
 clear h
 replace H := Option.bind_eq_some_iff.mp H
 obtain ⟨t109, A30, H⟩ := H
 replace H : (if t109 = true then ((impl_within.f a0 0 100000).bind fun t110 => (if t110 = true then (if (l1.length : Int) > 200 then (some (([] : List (S34)), 0, 0, 0, ([] : List (S36)), 9)) else (impl_CartRun.l0 k (([] : List (S34))) l1 (l1.length : Int) 0 0 a0 0 ([] : List (S36)))) else (some (([] : List (S34)), 0, 0, 0, ([] : List (S36)), 5)))) else (some (([] : List (S34)), 0, 0, 0, ([] : List (S36)), 2))) = some (r1, r2, r3, r4, r5, r6) := H
 have A3 := za A30
 clear A30
 by_cases c4 : t109 = true
 rotate_left
 ·replace c4 := Bool.eq_false_iff.mpr c4
  subst c4
  have H1 : (some (([] : List (S34)), 0, 0, 0, ([] : List (S36)), 2)) = some (r1, r2, r3, r4, r5, r6) := by rw [if_neg (show ¬ (false = true) by decide)] at H; exact H
  clear H
  have H := H1
  clear H1
  simp only [Option.some.injEq, Prod.mk.injEq] at H
  obtain ⟨rfl, rfl, rfl, rfl, rfl, rfl⟩ := H
  go_enter Try.func7, Try.ntmps7
  go_wp2_with (first | ((with_reducible refine gate_dst (N := 5) rfl ?_); refine box_event ?hg (N := 5) ?hd (cs := #[.int .i64 0, .int .i64 0, .int .i64 0, .slice none 0 0]) (t := 30) ?hr ?_; (case hd => rfl); (case hg => rfl); (case hr => exact zH89); intro gb108 hg w46 hbox hb; have n_ := zA_ (za (zt zG70 hb)) (zA_ (za (hbox)) (zA_ (zN1 w.heap.size hg (zs zG70)) (zN1 w.heap.size hg (zs zG70)))); clear HB; obtain ⟨HB, BK108, GW108, GE108⟩ := n_; clear hb hbox hg) | ((with_reducible refine gate_callee (f := 22) rfl ?_); refine goesL_ (some 14) rfl rfl Try.func22 zG88 rfl #[.slice A1 l1.length c1] rfl zG63 ?_; (with_reducible refine (impl_CartAct.calls _ _ l1 false _ ?side1 ?side2 A3.out).mono ?_); (case side1 => exact zH49); (case side2 => exact HC1.out); rintro e w' ⟨rfl, ⟨nd, rfl⟩⟩; refine ⟨_, rfl, ?_⟩; (try (rw [drewN_self w46]; generalize hq_ : World.drewN w46 _ = w46; have n0_ : Aside0 (w46.heap[gb108]? = some (.cells #[.int .i64 0, .int .i64 0, .int .i64 0, .slice none 0 0] 30 (0, 0))) := ⟨by rw [← hq_]; exact zG76⟩; have n1_ : Aside0 (Below w.heap.size w w46) := ⟨by rw [← hq_]; exact zG68⟩; clear BK108 HB hq_; have BK108 := n0_; have HB := n1_; clear n0_ n1_)); (try have hcu47_0 : w46.cell? ⟨gb108, 0, none⟩ = some (.int .i64 0) := (zc BK108.out 0).trans rfl); (try have hcu47_1 : w46.cell? ⟨gb108, 1, none⟩ = some (.int .i64 0) := (zc BK108.out 1).trans rfl); (try have hcu47_2 : w46.cell? ⟨gb108, 2, none⟩ = some (.int .i64 0) := (zc BK108.out 2).trans rfl); (try have hcu47_3 : w46.cell? ⟨gb108, 3, none⟩ = some (.slice none 0 0) := (zc BK108.out 3).trans rfl); (try have hfcu47_0 := ze BK108.out 0); (try have hfcu47_1 := ze BK108.out 1); (try have hfcu47_2 := ze BK108.out 2); (try have hfcu47_3 := ze BK108.out 3); obtain ⟨hcz48_0, hcz48_1, hcz48_2, hcz48_3, hfz48_0, hfz48_1, hfz48_2, hfz48_3⟩ := zB4 BK108.out))
  refine bodyPost_ret (results_list (rs := [.tmp 4, .cell 5 30, .tmp 6]) rfl (by simp) (.tmp (.cell gb108 30 #[.int .i64 0, .int .i64 0, .int .i64 0, .slice none 0 0] (0, 0) _ rfl zK99 Try.underlying30 rfl zG88 (.tmp .nil)))) rfl ?_
  exact zH4

 subst c4
 have H1 : ((impl_within.f a0 0 100000).bind fun t110 => (if t110 = true then (if (l1.length : Int) > 200 then (some (([] : List (S34)), 0, 0, 0, ([] : List (S36)), 9)) else (impl_CartRun.l0 k (([] : List (S34))) l1 (l1.length : Int) 0 0 a0 0 ([] : List (S36)))) else (some (([] : List (S34)), 0, 0, 0, ([] : List (S36)), 5)))) = some (r1, r2, r3, r4, r5, r6) := by rw [if_pos rfl] at H; exact H
 clear H
 have H := H1
 clear H1
 replace H := Option.bind_eq_some_iff.mp H
 obtain ⟨t110, A50, H⟩ := H
 replace H : (if t110 = true then (if (l1.length : Int) > 200 then (some (([] : List (S34)), 0, 0, 0, ([] : List (S36)), 9)) else (impl_CartRun.l0 k (([] : List (S34))) l1 (l1.length : Int) 0 0 a0 0 ([] : List (S36)))) else (some (([] : List (S34)), 0, 0, 0, ([] : List (S36)), 5))) = some (r1, r2, r3, r4, r5, r6) := H
 have A5 := za A50
 clear A50
 by_cases c6 : t110 = true
 rotate_left
 ·replace c6 := Bool.eq_false_iff.mpr c6
  subst c6
  have H1 : (some (([] : List (S34)), 0, 0, 0, ([] : List (S36)), 5)) = some (r1, r2, r3, r4, r5, r6) := by rw [if_neg (show ¬ (false = true) by decide)] at H; exact H
  clear H
  have H := H1
  clear H1
  simp only [Option.some.injEq, Prod.mk.injEq] at H
  obtain ⟨rfl, rfl, rfl, rfl, rfl, rfl⟩ := H
  go_enter Try.func7, Try.ntmps7
  go_wp2_with (first | ((with_reducible refine gate_dst (N := 5) rfl ?_); refine box_event ?hg (N := 5) ?hd (cs := #[.int .i64 0, .int .i64 0, .int .i64 0, .slice none 0 0]) (t := 30) ?hr ?_; (case hd => rfl); (case hg => rfl); (case hr => exact zH89); intro gb108 hg w42 hbox hb; have n_ := zA_ (za (zt zG70 hb)) (zA_ (za (hbox)) (zA_ (zN1 w.heap.size hg (zs zG70)) (zN1 w.heap.size hg (zs zG70)))); clear HB; obtain ⟨HB, BK108, GW108, GE108⟩ := n_; clear hb hbox hg) | ((with_reducible refine gate_callee (f := 22) rfl ?_); refine goesL_ (some 14) rfl rfl Try.func22 zG88 rfl #[.slice A1 l1.length c1] rfl zG63 ?_; (with_reducible refine (impl_CartAct.calls _ _ l1 true _ ?side1 ?side2 A3.out).mono ?_); (case side1 => exact zH49); (case side2 => exact HC1.out); rintro e w' ⟨rfl, ⟨nd, rfl⟩⟩; refine ⟨_, rfl, ?_⟩; (try (rw [drewN_self w42]; generalize hq_ : World.drewN w42 _ = w42; have n0_ : Aside0 (w42.heap[gb108]? = some (.cells #[.int .i64 0, .int .i64 0, .int .i64 0, .slice none 0 0] 30 (0, 0))) := ⟨by rw [← hq_]; exact zG76⟩; have n1_ : Aside0 (Below w.heap.size w w42) := ⟨by rw [← hq_]; exact zG68⟩; clear BK108 HB hq_; have BK108 := n0_; have HB := n1_; clear n0_ n1_)); (try have hcu43_0 : w42.cell? ⟨gb108, 0, none⟩ = some (.int .i64 0) := (zc BK108.out 0).trans rfl); (try have hcu43_1 : w42.cell? ⟨gb108, 1, none⟩ = some (.int .i64 0) := (zc BK108.out 1).trans rfl); (try have hcu43_2 : w42.cell? ⟨gb108, 2, none⟩ = some (.int .i64 0) := (zc BK108.out 2).trans rfl); (try have hcu43_3 : w42.cell? ⟨gb108, 3, none⟩ = some (.slice none 0 0) := (zc BK108.out 3).trans rfl); (try have hfcu43_0 := ze BK108.out 0); (try have hfcu43_1 := ze BK108.out 1); (try have hfcu43_2 := ze BK108.out 2); (try have hfcu43_3 := ze BK108.out 3)) | ((with_reducible refine gate_callee (f := 23) rfl ?_); refine goesL_ (some 19) rfl rfl Try.func23 zG88 rfl #[.int .i64 a0, .int .i64 0, .int .i64 100000] rfl zG63 ?_; (with_reducible refine (impl_within.calls a0 0 100000 false _ A5.out).mono ?_); rintro e w' ⟨rfl, ⟨nd, rfl⟩⟩; refine ⟨_, rfl, ?_⟩; (try (rw [drewN_self w42]; generalize hq_ : World.drewN w42 _ = w42; have n0_ : Aside0 (w42.heap[gb108]? = some (.cells #[.int .i64 0, .int .i64 0, .int .i64 0, .slice none 0 0] 30 (0, 0))) := ⟨by rw [← hq_]; exact zG76⟩; have n1_ : Aside0 (Below w.heap.size w w42) := ⟨by rw [← hq_]; exact zG68⟩; clear BK108 HB hq_; have BK108 := n0_; have HB := n1_; clear n0_ n1_)); (try have hcu44_0 : w42.cell? ⟨gb108, 0, none⟩ = some (.int .i64 0) := (zc BK108.out 0).trans rfl); (try have hcu44_1 : w42.cell? ⟨gb108, 1, none⟩ = some (.int .i64 0) := (zc BK108.out 1).trans rfl); (try have hcu44_2 : w42.cell? ⟨gb108, 2, none⟩ = some (.int .i64 0) := (zc BK108.out 2).trans rfl); (try have hcu44_3 : w42.cell? ⟨gb108, 3, none⟩ = some (.slice none 0 0) := (zc BK108.out 3).trans rfl); (try have hfcu44_0 := ze BK108.out 0); (try have hfcu44_1 := ze BK108.out 1); (try have hfcu44_2 := ze BK108.out 2); (try have hfcu44_3 := ze BK108.out 3); obtain ⟨hcz45_0, hcz45_1, hcz45_2, hcz45_3, hfz45_0, hfz45_1, hfz45_2, hfz45_3⟩ := zB4 BK108.out))
  refine bodyPost_ret (results_list (rs := [.tmp 4, .cell 5 30, .tmp 6]) rfl (by simp) (.tmp (.cell gb108 30 #[.int .i64 0, .int .i64 0, .int .i64 0, .slice none 0 0] (0, 0) _ rfl zK99 Try.underlying30 rfl zG88 (.tmp .nil)))) rfl ?_
  exact zH4
 subst c6
 have H1 : (if (l1.length : Int) > 200 then (some (([] : List (S34)), 0, 0, 0, ([] : List (S36)), 9)) else (impl_CartRun.l0 k (([] : List (S34))) l1 (l1.length : Int) 0 0 a0 0 ([] : List (S36)))) = some (r1, r2, r3, r4, r5, r6) := by rw [if_pos rfl] at H; exact H
 clear H
 have H := H1
 clear H1
 by_cases c7 : (l1.length : Int) > 200
 ·rw [if_pos c7] at H
  have c7b0 : decide (200 < (l1.length : Int)) = true := decide_eq_true c7
  have c7b1 : decide (200 < l1.length) = true := decide_eq_true (by omega)
  clear c7
  simp only [Option.some.injEq, Prod.mk.injEq] at H
  obtain ⟨rfl, rfl, rfl, rfl, rfl, rfl⟩ := H
  go_enter Try.func7, Try.ntmps7
  go_wp2_with (first | ((with_reducible refine gate_dst (N := 5) rfl ?_); refine box_event ?hg (N := 5) ?hd (cs := #[.int .i64 0, .int .i64 0, .int .i64 0, .slice none 0 0]) (t := 30) ?hr ?_; (case hd => rfl); (case hg => rfl); (case hr => exact zH89); intro gb108 hg w8 hbox hb; have n_ := zA_ (za (zt zG70 hb)) (zA_ (za (hbox)) (zA_ (zN1 w.heap.size hg (zs zG70)) (zN1 w.heap.size hg (zs zG70)))); clear HB; obtain ⟨HB, BK108, GW108, GE108⟩ := n_; clear hb hbox hg) | ((with_reducible refine gate_callee (f := 22) rfl ?_); refine goesL_ (some 14) rfl rfl Try.func22 zG88 rfl #[.slice A1 l1.length c1] rfl zG63 ?_; (with_reducible refine (impl_CartAct.calls _ _ l1 true _ ?side1 ?side2 A3.out).mono ?_); (case side1 => exact zH49); (case side2 => exact HC1.out); rintro e w' ⟨rfl, ⟨nd, rfl⟩⟩; refine ⟨_, rfl, ?_⟩; (try (rw [drewN_self w8]; generalize hq_ : World.drewN w8 _ = w8; have n0_ : Aside0 (w8.heap[gb108]? = some (.cells #[.int .i64 0, .int .i64 0, .int .i64 0, .slice none 0 0] 30 (0, 0))) := ⟨by rw [← hq_]; exact zG76⟩; have n1_ : Aside0 (Below w.heap.size w w8) := ⟨by rw [← hq_]; exact zG68⟩; clear BK108 HB hq_; have BK108 := n0_; have HB := n1_; clear n0_ n1_)); (try have hcu9_0 : w8.cell? ⟨gb108, 0, none⟩ = some (.int .i64 0) := (zc BK108.out 0).trans rfl); (try have hcu9_1 : w8.cell? ⟨gb108, 1, none⟩ = some (.int .i64 0) := (zc BK108.out 1).trans rfl); (try have hcu9_2 : w8.cell? ⟨gb108, 2, none⟩ = some (.int .i64 0) := (zc BK108.out 2).trans rfl); (try have hcu9_3 : w8.cell? ⟨gb108, 3, none⟩ = some (.slice none 0 0) := (zc BK108.out 3).trans rfl); (try have hfcu9_0 := ze BK108.out 0); (try have hfcu9_1 := ze BK108.out 1); (try have hfcu9_2 := ze BK108.out 2); (try have hfcu9_3 := ze BK108.out 3)) | ((with_reducible refine gate_callee (f := 23) rfl ?_); refine goesL_ (some 19) rfl rfl Try.func23 zG88 rfl #[.int .i64 a0, .int .i64 0, .int .i64 100000] rfl zG63 ?_; (with_reducible refine (impl_within.calls a0 0 100000 true _ A5.out).mono ?_); rintro e w' ⟨rfl, ⟨nd, rfl⟩⟩; refine ⟨_, rfl, ?_⟩; (try (rw [drewN_self w8]; generalize hq_ : World.drewN w8 _ = w8; have n0_ : Aside0 (w8.heap[gb108]? = some (.cells #[.int .i64 0, .int .i64 0, .int .i64 0, .slice none 0 0] 30 (0, 0))) := ⟨by rw [← hq_]; exact zG76⟩; have n1_ : Aside0 (Below w.heap.size w w8) := ⟨by rw [← hq_]; exact zG68⟩; clear BK108 HB hq_; have BK108 := n0_; have HB := n1_; clear n0_ n1_)); (try have hcu10_0 : w8.cell? ⟨gb108, 0, none⟩ = some (.int .i64 0) := (zc BK108.out 0).trans rfl); (try have hcu10_1 : w8.cell? ⟨gb108, 1, none⟩ = some (.int .i64 0) := (zc BK108.out 1).trans rfl); (try have hcu10_2 : w8.cell? ⟨gb108, 2, none⟩ = some (.int .i64 0) := (zc BK108.out 2).trans rfl); (try have hcu10_3 : w8.cell? ⟨gb108, 3, none⟩ = some (.slice none 0 0) := (zc BK108.out 3).trans rfl); (try have hfcu10_0 := ze BK108.out 0); (try have hfcu10_1 := ze BK108.out 1); (try have hfcu10_2 := ze BK108.out 2); (try have hfcu10_3 := ze BK108.out 3); obtain ⟨hcz11_0, hcz11_1, hcz11_2, hcz11_3, hfz11_0, hfz11_1, hfz11_2, hfz11_3⟩ := zB4 BK108.out))
  refine bodyPost_ret (results_list (rs := [.tmp 4, .cell 5 30, .tmp 6]) rfl (by simp) (.tmp (.cell gb108 30 #[.int .i64 0, .int .i64 0, .int .i64 0, .slice none 0 0] (0, 0) _ rfl zK99 Try.underlying30 rfl zG88 (.tmp .nil)))) rfl ?_
  exact zH4
 rw [if_neg c7] at H
 have c7b0 : decide (200 < (l1.length : Int)) = false := decide_eq_false c7
 have c7b1 : decide (200 < l1.length) = false := decide_eq_false (by omega)
 clear c7
 obtain ⟨y111, hy111⟩ : ∃ y_ : List (S34), y_ = (([] : List (S34))) := ⟨_, rfl⟩
 replace H : (impl_CartRun.l0 k y111 l1 (l1.length : Int) 0 0 a0 0 ([] : List (S36))) = some (r1, r2, r3, r4, r5, r6) := by first | (rw [hy111]; with_reducible exact H) | (have H2_ := (Option.bind_some _ _).symm.trans H; rw [hy111]; with_reducible exact H2_) | (have H2_ := (Option.bind_some _ _).symm.trans H; with_reducible exact H2_) | with_reducible exact H | (rw [hy111]; exact H) | exact H
 have Ny111 := za hy111
 clear hy111
 have H' := za H
 clear H
 go_enter Try.func7, Try.ntmps7
 go_wp2_with (first | ((with_reducible refine gate_dst (N := 5) rfl ?_); refine box_event ?hg (N := 5) ?hd (cs := #[.int .i64 0, .int .i64 0, .int .i64 0, .slice none 0 0]) (t := 30) ?hr ?_; (case hd => rfl); (case hg => rfl); (case hr => exact zH89); intro gb108 hg w12 hbox hb; have n_ := zA_ (za (zt zG70 hb)) (zA_ (za (hbox)) (zA_ (zN1 w.heap.size hg (zs zG70)) (zN1 w.heap.size hg (zs zG70)))); clear HB; obtain ⟨HB, BK108, GW108, GE108⟩ := n_; clear hb hbox hg) | ((with_reducible refine gate_callee (f := 22) rfl ?_); refine goesL_ (some 14) rfl rfl Try.func22 zG88 rfl #[.slice A1 l1.length c1] rfl zG63 ?_; (with_reducible refine (impl_CartAct.calls _ _ l1 true _ ?side1 ?side2 A3.out).mono ?_); (case side1 => exact zH49); (case side2 => exact HC1.out); rintro e w' ⟨rfl, ⟨nd, rfl⟩⟩; refine ⟨_, rfl, ?_⟩; (try (rw [drewN_self w12]; generalize hq_ : World.drewN w12 _ = w12; have n0_ : Aside0 (w12.heap[gb108]? = some (.cells #[.int .i64 0, .int .i64 0, .int .i64 0, .slice none 0 0] 30 (0, 0))) := ⟨by rw [← hq_]; exact zG76⟩; have n1_ : Aside0 (Below w.heap.size w w12) := ⟨by rw [← hq_]; exact zG68⟩; clear BK108 HB hq_; have BK108 := n0_; have HB := n1_; clear n0_ n1_)); (try have hcu13_0 : w12.cell? ⟨gb108, 0, none⟩ = some (.int .i64 0) := (zc BK108.out 0).trans rfl); (try have hcu13_1 : w12.cell? ⟨gb108, 1, none⟩ = some (.int .i64 0) := (zc BK108.out 1).trans rfl); (try have hcu13_2 : w12.cell? ⟨gb108, 2, none⟩ = some (.int .i64 0) := (zc BK108.out 2).trans rfl); (try have hcu13_3 : w12.cell? ⟨gb108, 3, none⟩ = some (.slice none 0 0) := (zc BK108.out 3).trans rfl); (try have hfcu13_0 := ze BK108.out 0); (try have hfcu13_1 := ze BK108.out 1); (try have hfcu13_2 := ze BK108.out 2); (try have hfcu13_3 := ze BK108.out 3)) | ((with_reducible refine gate_callee (f := 23) rfl ?_); refine goesL_ (some 19) rfl rfl Try.func23 zG88 rfl #[.int .i64 a0, .int .i64 0, .int .i64 100000] rfl zG63 ?_; (with_reducible refine (impl_within.calls a0 0 100000 true _ A5.out).mono ?_); rintro e w' ⟨rfl, ⟨nd, rfl⟩⟩; refine ⟨_, rfl, ?_⟩; (try (rw [drewN_self w12]; generalize hq_ : World.drewN w12 _ = w12; have n0_ : Aside0 (w12.heap[gb108]? = some (.cells #[.int .i64 0, .int .i64 0, .int .i64 0, .slice none 0 0] 30 (0, 0))) := ⟨by rw [← hq_]; exact zG76⟩; have n1_ : Aside0 (Below w.heap.size w w12) := ⟨by rw [← hq_]; exact zG68⟩; clear BK108 HB hq_; have BK108 := n0_; have HB := n1_; clear n0_ n1_)); (try have hcu14_0 : w12.cell? ⟨gb108, 0, none⟩ = some (.int .i64 0) := (zc BK108.out 0).trans rfl); (try have hcu14_1 : w12.cell? ⟨gb108, 1, none⟩ = some (.int .i64 0) := (zc BK108.out 1).trans rfl); (try have hcu14_2 : w12.cell? ⟨gb108, 2, none⟩ = some (.int .i64 0) := (zc BK108.out 2).trans rfl); (try have hcu14_3 : w12.cell? ⟨gb108, 3, none⟩ = some (.slice none 0 0) := (zc BK108.out 3).trans rfl); (try have hfcu14_0 := ze BK108.out 0); (try have hfcu14_1 := ze BK108.out 1); (try have hfcu14_2 := ze BK108.out 2); (try have hfcu14_3 := ze BK108.out 3)) | ((with_reducible refine gate_dst (N := 29) rfl ?_); refine Kd.R_lit k34 _ 34 ?hg (N := 29) ?hd (xs := ([] : List (S34))) (inner := []) (ok := fun _ => True) (okp := fun _ => True) ?hr ?hp (fun _ hk => hk) trivial (Below.refl _ _) (Nat.le_refl _) (by simp) ?_; (case hd => rfl); (case hg => rfl); (case hr => exact zH89); (case hp => exact (Reps.none _ _)); intro v112 w15 ho16 hb hg_ hnew_; clear hg_ hnew_; (first | rw [← Ny111.out] at ho16 | (simp only [Int.reduceToNat] at ho16; rw [← Ny111.out] at ho16)); have n_ := zA_ (za (zag ho16 (zs zG68))) (zA_ (za (zq (g := gb108) (o := .cells #[.int .i64 0, .int .i64 0, .int .i64 0, .slice none 0 0] 30 (0, 0)) zG76 hb)) (za (zt zG68 hb))); clear BK108 HB; obtain ⟨HO113, BK108, HB⟩ := n_; clear hb ho16) | ((with_reducible refine gate_dst (N := 7) rfl ?_); refine box_event ?hg (N := 7) ?hd (cs := #[.int .i64 0, .int .i64 0, .int .i64 0, .slice none 0 0]) (t := 30) ?hr ?_; (case hd => rfl); (case hg => rfl); (case hr => exact zH89); intro gb114 hg w17 hbox hb; have n_ := zA_ (za (zp (by (with_reducible repeat (first | apply zm | apply zl | apply zn)); exact HO113.out) hb)) (zA_ (za (zq (g := gb108) (o := .cells #[.int .i64 0, .int .i64 0, .int .i64 0, .slice none 0 0] 30 (0, 0)) zG76 hb)) (zA_ (za (zt zG68 hb)) (zA_ (za (hbox)) (zA_ (zN1 w.heap.size hg (zs zG68)) (zA_ (zN1 w.heap.size hg (zs zG68)) (zN2 hg (zx (g := gb108) (o := .cells #[.int .i64 0, .int .i64 0, .int .i64 0, .slice none 0 0] 30 (0, 0)) zG76))))))); clear HO113 BK108 HB; obtain ⟨HO113, BK108, HB, BK114, GW114, GE114, NB108_114, NB114_108⟩ := n_; clear hb hbox hg; have hnb18 := NB114_108.out; have hnc18 := NB108_114.out; obtain ⟨hcz19_0, hcz19_1, hcz19_2, hcz19_3, hfz19_0, hfz19_1, hfz19_2, hfz19_3⟩ := zB4 BK114.out))
 go_loopg [8, 32] k (fun kq v8 v32 w' => ∃ (x8_1 : List (S34)) (x32_1 : Int) (x115000_1 : Int) (x115001_1 : Int) (x115002_1 : Int) (x115003_1 : List (S36)) (u115003 : Value), v32 = .int .i64 x32_1 ∧ Aside0 (impl_CartRun.l0 kq x8_1 l1 (l1.length : Int) x32_1 x115000_1 x115001_1 x115002_1 x115003_1 = some (r1, r2, r3, r4, r5, r6)) ∧ Aside0 (kq ≤ k) ∧ Aside0 (Kd.R k34 34 w' w.heap.size (fun _ => True) v8 x8_1) ∧ Aside0 (Kd.R k36 36 w' w.heap.size (fun _ => True) u115003 x115003_1) ∧ Aside0 (w'.heap[gb108]? = some (.cells #[.int .i64 0, .int .i64 0, .int .i64 0, (.slice none 0 0)] 30 (0, 0))) ∧ Aside0 (w'.heap[gb114]? = some (.cells #[.int .i64 x115000_1, .int .i64 x115001_1, .int .i64 x115002_1, u115003] 30 (0, 0))) ∧ Aside0 (Below w.heap.size w w'))
 case atStart => exact ⟨(y111), (0), (0), (a0), (0), (([] : List (S36))), (.slice none 0 0), zG87, H', ⟨Nat.le_refl _⟩, ⟨by (with_reducible repeat (first | apply zm | apply zl | apply zn)); exact zr (zo (p := ⟨gb114, 3, none⟩) (zo (p := ⟨gb114, 2, none⟩) (zo (p := ⟨gb114, 1, none⟩) (zo (p := ⟨gb114, 0, none⟩) (zw HO113.out BK114.out zG89) (fun _ hk => hk.2) (.int .i64 0)) (fun _ hk => hk.2) (.int .i64 a0)) (fun _ hk => hk.2) (.int .i64 0)) (fun _ hk => hk.2) (.slice none 0 0)) (fun _ hk => trivial)⟩, ⟨zH54⟩, ⟨by (with_reducible repeat (first | refine zd ?_ _ | refine zg ?_ | refine zb ?_ _)); refine zv ?_ NB108_114.out _; (with_reducible repeat (first | refine zd ?_ _ | refine zg ?_ | refine zb ?_ _)); refine zv ?_ NB108_114.out _; (with_reducible repeat (first | refine zd ?_ _ | refine zg ?_ | refine zb ?_ _)); refine zv ?_ NB108_114.out _; (with_reducible repeat (first | refine zd ?_ _ | refine zg ?_ | refine zb ?_ _)); refine zv ?_ NB108_114.out _; (with_reducible repeat (first | refine zd ?_ _ | refine zg ?_ | refine zb ?_ _)); exact BK108.out⟩, ⟨by (with_reducible repeat (first | refine zd ?_ _ | refine zg ?_ | refine zb ?_ _)); refine zu (cs := #[.int .i64 0, .int .i64 a0, .int .i64 0, .slice none 0 0]) ?_ 3 _ rfl; (with_reducible repeat (first | refine zd ?_ _ | refine zg ?_ | refine zb ?_ _)); refine zu (cs := #[.int .i64 0, .int .i64 a0, .int .i64 0, .slice none 0 0]) ?_ 2 _ rfl; (with_reducible repeat (first | refine zd ?_ _ | refine zg ?_ | refine zb ?_ _)); refine zu (cs := #[.int .i64 0, .int .i64 0, .int .i64 0, .slice none 0 0]) ?_ 1 _ rfl; (with_reducible repeat (first | refine zd ?_ _ | refine zg ?_ | refine zb ?_ _)); refine zu (cs := #[.int .i64 0, .int .i64 0, .int .i64 0, .slice none 0 0]) ?_ 0 _ rfl; (with_reducible repeat (first | refine zd ?_ _ | refine zg ?_ | refine zb ?_ _)); exact BK114.out⟩, ⟨zH30⟩⟩
 case round =>
  clear H'
  try clear c1
  try clear c4
  try clear c6
  try clear c7
  try clear c7b0
  try clear c7b1
  try clear hcz11_0
  try clear hcz11_1
  try clear hcz11_2
  try clear hcz11_3
  try clear hcz19_0
  try clear hcz19_1
  try clear hcz19_2
  try clear hcz19_3
  try clear hfz11_0
  try clear hfz11_1
  try clear hfz11_2
  try clear hfz11_3
  try clear hfz19_0
  try clear hfz19_1
  try clear hfz19_2
  try clear hfz19_3
  obtain ⟨x8_1, x32_1, x115000_1, x115001_1, x115002_1, x115003_1, u115003, rfl, HA, HK1, HO_8, HO_115003, BK108, BK114, HB⟩ := hrel
  cases gk with
  | zero => exact absurd HA.out (by simp [impl_CartRun.l0])
  | succ k1 =>
   have H := HA.out
   clear HA
   simp only [impl_CartRun.l0] at H
   by_cases c20 : x32_1 < (l1.length : Int)
   ·rw [if_pos c20] at H
    have c20b0 := decide_eq_true c20
    clear c20
    by_cases c21 : 0 ≤ x32_1
    rotate_left
    ·rw [if_neg c21] at H
     exact absurd H (by simp)
    rw [if_pos c21] at H
    have c21b0 := decide_eq_true c21
    clear c21
    by_cases c22 : x32_1 < (l1.length : Int)
    rotate_left
    ·rw [if_neg c22] at H
     exact absurd H (by simp)
    rw [if_pos c22] at H
    have c22b0 := decide_eq_true c22
    clear c22
    replace H := Option.bind_eq_some_iff.mp H
    obtain ⟨⟨t117, t118, t119, t120, t121⟩, A230, H⟩ := H
    replace H : (if x8_1.length < 8796093022208 then (impl_CartRun.l0 k1 (x8_1 ++ [(⟨t117, t119⟩ : S34)]) l1 (l1.length : Int) (wrap64 (x32_1 + 1)) t118 t119 t120 t121) else (none)) = some (r1, r2, r3, r4, r5, r6) := H
    have A23 := za A230
    clear A230
    by_cases c24 : x8_1.length < 8796093022208
    rotate_left
    ·rw [if_neg c24] at H
     exact absurd H (by simp)
    rw [if_pos c24] at H
    have LMc24 := za c24
    clear c24
    obtain ⟨y124, hy124⟩ : ∃ y_ : List (S34), y_ = (x8_1 ++ [(⟨t117, t119⟩ : S34)]) := ⟨_, rfl⟩
    replace H : (impl_CartRun.l0 k1 y124 l1 (l1.length : Int) (wrap64 (x32_1 + 1)) t118 t119 t120 t121) = some (r1, r2, r3, r4, r5, r6) := by first | (rw [hy124]; with_reducible exact H) | (have H2_ := (Option.bind_some _ _).symm.trans H; rw [hy124]; with_reducible exact H2_) | (have H2_ := (Option.bind_some _ _).symm.trans H; with_reducible exact H2_) | with_reducible exact H | (rw [hy124]; exact H) | exact H
    have Ny124 := za hy124
    clear hy124
    have H' := za H
    clear H
    have p115 : 0 ≤ (x32_1 : Int) := zO
    have q115 : x32_1 < (l1.length : Int) := zO
    obtain ⟨ad115, e115, hx115_0, hx115_1, hx115_2, hx115_3⟩ := at_T54 HR1.out x32_1 p115 q115
    cases e115
    replace hx115_0 := (HB.out.cell (zj w _ hx115_0)).trans hx115_0
    replace hx115_1 := (HB.out.cell (zj w _ hx115_1)).trans hx115_1
    replace hx115_2 := (HB.out.cell (zj w _ hx115_2)).trans hx115_2
    replace hx115_3 := (HB.out.cell (zj w _ hx115_3)).trans hx115_3
    replace p115 := eq_true p115
    replace q115 := eq_true q115
    go_wp2_with (first | ((with_reducible refine gate_dst (N := 10) rfl ?_); refine box_event ?hg (N := 10) ?hd (cs := #[.int .i64 0, .int .i64 0, .int .i64 0, .int .i64 0]) (t := 54) ?hr ?_; (case hd => rfl); (case hg => rfl); (case hr => exact zH89); intro gb116 hg w25 hbox hb; have n_ := zA_ (za (zp zK176 hb)) (zA_ (za (zp (by (with_reducible repeat (first | apply zm | apply zl | apply zn)); exact HO_115003.out) hb)) (zA_ (za (zq (g := gb108) (o := .cells #[.int .i64 0, .int .i64 0, .int .i64 0, .slice none 0 0] 30 (0, 0)) zG76 hb)) (zA_ (za (zq (g := gb114) (o := .cells #[.int .i64 x115000_1, .int .i64 x115001_1, .int .i64 x115002_1, u115003] 30 (0, 0)) zK158 hb)) (zA_ (za (zt zK138 hb)) (zA_ (za (hbox)) (zA_ (zN1 w.heap.size hg (zs zK138)) (zA_ (zN1 w.heap.size hg (zs zK138)) (zN3 hg (zx (g := gb108) (o := .cells #[.int .i64 0, .int .i64 0, .int .i64 0, .slice none 0 0] 30 (0, 0)) zG76) (zN2 hg (zx (g := gb114) (o := .cells #[.int .i64 x115000_1, .int .i64 x115001_1, .int .i64 x115002_1, u115003] 30 (0, 0)) zK158)))))))))); clear HO_8 HO_115003 BK108 BK114 HB; obtain ⟨HO_8, HO_115003, BK108, BK114, HB, BK116, GW116, GE116, NB108_116, NB116_108, NB114_116, NB116_114⟩ := n_; clear hb hbox hg; have hnb26 := NB116_108.out; have hnc26 := NB108_116.out; have hnb27 := NB116_114.out; have hnc27 := NB114_116.out; obtain ⟨hcz28_0, hcz28_1, hcz28_2, hcz28_3, hfz28_0, hfz28_1, hfz28_2, hfz28_3⟩ := zB4 BK116.out) | ((with_reducible refine gate_store (t := 54) (p := 10) rfl ?_); refine store_event (t := 54) (p := 10) (v := ?vo_w29) (w1 := ((((w25.setCell ⟨gb116, 0, none⟩ (.int .i64 ((rd_T54 l1 x32_1).f0))).setCell ⟨gb116, 1, none⟩ (.int .i64 ((rd_T54 l1 x32_1).f1))).setCell ⟨gb116, 2, none⟩ (.int .i64 ((rd_T54 l1 x32_1).f2))).setCell ⟨gb116, 3, none⟩ (.int .i64 ((rd_T54 l1 x32_1).f3)))) ?hg ?ho ?hn ?hr ?_; (case ho => rfl); (case hg => rfl); (case hn => rfl); (case hr => exact zH89); intro w29 hw; have n0_ : Aside0 (Kd.R k34 34 w29 w.heap.size (fun _ => True) u8 x8_1) := ⟨(by rw [hw]; exact (by (with_reducible repeat (first | apply zm | apply zl | apply zn)); exact zr (zo (p := ⟨gb116, 3, none⟩) (zo (p := ⟨gb116, 2, none⟩) (zo (p := ⟨gb116, 1, none⟩) (zo (p := ⟨gb116, 0, none⟩) (zw HO_8.out BK116.out zG89) (fun _ hk => hk.2) (.int .i64 ((rd_T54 l1 x32_1).f0))) (fun _ hk => hk.2) (.int .i64 ((rd_T54 l1 x32_1).f1))) (fun _ hk => hk.2) (.int .i64 ((rd_T54 l1 x32_1).f2))) (fun _ hk => hk.2) (.int .i64 ((rd_T54 l1 x32_1).f3))) (fun _ hk => trivial)))⟩; have n1_ : Aside0 (Kd.R k36 36 w29 w.heap.size (fun _ => True) u115003 x115003_1) := ⟨(by rw [hw]; exact (by (with_reducible repeat (first | apply zm | apply zl | apply zn)); exact zr (zo (p := ⟨gb116, 3, none⟩) (zo (p := ⟨gb116, 2, none⟩) (zo (p := ⟨gb116, 1, none⟩) (zo (p := ⟨gb116, 0, none⟩) (zw HO_115003.out BK116.out zG89) (fun _ hk => hk.2) (.int .i64 ((rd_T54 l1 x32_1).f0))) (fun _ hk => hk.2) (.int .i64 ((rd_T54 l1 x32_1).f1))) (fun _ hk => hk.2) (.int .i64 ((rd_T54 l1 x32_1).f2))) (fun _ hk => hk.2) (.int .i64 ((rd_T54 l1 x32_1).f3))) (fun _ hk => trivial)))⟩; have n2_ : Aside0 (w29.heap[gb108]? = some (.cells #[.int .i64 0, .int .i64 0, .int .i64 0, .slice none 0 0] 30 (0, 0))) := ⟨(by rw [hw]; exact (by (with_reducible repeat (first | refine zd ?_ _ | refine zg ?_ | refine zb ?_ _)); refine zv ?_ NB108_116.out _; (with_reducible repeat (first | refine zd ?_ _ | refine zg ?_ | refine zb ?_ _)); refine zv ?_ NB108_116.out _; (with_reducible repeat (first | refine zd ?_ _ | refine zg ?_ | refine zb ?_ _)); refine zv ?_ NB108_116.out _; (with_reducible repeat (first | refine zd ?_ _ | refine zg ?_ | refine zb ?_ _)); refine zv ?_ NB108_116.out _; (with_reducible repeat (first | refine zd ?_ _ | refine zg ?_ | refine zb ?_ _)); exact BK108.out))⟩; have n3_ : Aside0 (w29.heap[gb114]? = some (.cells #[.int .i64 x115000_1, .int .i64 x115001_1, .int .i64 x115002_1, u115003] 30 (0, 0))) := ⟨(by rw [hw]; exact (by (with_reducible repeat (first | refine zd ?_ _ | refine zg ?_ | refine zb ?_ _)); refine zv ?_ NB114_116.out _; (with_reducible repeat (first | refine zd ?_ _ | refine zg ?_ | refine zb ?_ _)); refine zv ?_ NB114_116.out _; (with_reducible repeat (first | refine zd ?_ _ | refine zg ?_ | refine zb ?_ _)); refine zv ?_ NB114_116.out _; (with_reducible repeat (first | refine zd ?_ _ | refine zg ?_ | refine zb ?_ _)); refine zv ?_ NB114_116.out _; (with_reducible repeat (first | refine zd ?_ _ | refine zg ?_ | refine zb ?_ _)); exact BK114.out))⟩; have n4_ : Aside0 (w29.heap[gb116]? = some (.cells #[.int .i64 ((rd_T54 l1 x32_1).f0), .int .i64 ((rd_T54 l1 x32_1).f1), .int .i64 ((rd_T54 l1 x32_1).f2), .int .i64 ((rd_T54 l1 x32_1).f3)] 54 (0, 0))) := ⟨(by rw [hw]; exact (by (with_reducible repeat (first | refine zd ?_ _ | refine zg ?_ | refine zb ?_ _)); refine zu (cs := #[.int .i64 ((rd_T54 l1 x32_1).f0), .int .i64 ((rd_T54 l1 x32_1).f1), .int .i64 ((rd_T54 l1 x32_1).f2), .int .i64 0]) ?_ 3 _ rfl; (with_reducible repeat (first | refine zd ?_ _ | refine zg ?_ | refine zb ?_ _)); refine zu (cs := #[.int .i64 ((rd_T54 l1 x32_1).f0), .int .i64 ((rd_T54 l1 x32_1).f1), .int .i64 0, .int .i64 0]) ?_ 2 _ rfl; (with_reducible repeat (first | refine zd ?_ _ | refine zg ?_ | refine zb ?_ _)); refine zu (cs := #[.int .i64 ((rd_T54 l1 x32_1).f0), .int .i64 0, .int .i64 0, .int .i64 0]) ?_ 1 _ rfl; (with_reducible repeat (first | refine zd ?_ _ | refine zg ?_ | refine zb ?_ _)); refine zu (cs := #[.int .i64 0, .int .i64 0, .int .i64 0, .int .i64 0]) ?_ 0 _ rfl; (with_reducible repeat (first | refine zd ?_ _ | refine zg ?_ | refine zb ?_ _)); exact BK116.out))⟩; have n5_ : Aside0 (Below w.heap.size w w29) := ⟨(by rw [hw]; exact zK133)⟩; clear hw HO_8; clear HO_115003 BK108; clear BK114 BK116 HB; have HO_8 := n0_; have HO_115003 := n1_; have BK108 := n2_; have BK114 := n3_; have BK116 := n4_; have HB := n5_; clear n0_ n1_ n2_ n3_ n4_ n5_; obtain ⟨hcz30_0, hcz30_1, hcz30_2, hcz30_3, hfz30_0, hfz30_1, hfz30_2, hfz30_3⟩ := zB4 BK116.out; obtain ⟨Ao31, co31, eo31⟩ := zaa HO_115003.out; subst eo31) | ((with_reducible refine gate_callee (f := 24) rfl ?_); refine goesL_ (some 37) rfl rfl Try.func24 zG88 rfl #[.pointer (some ⟨gb114, 0, none⟩), .agg #[.int .i64 ((rd_T54 l1 x32_1).f0), .int .i64 ((rd_T54 l1 x32_1).f1), .int .i64 ((rd_T54 l1 x32_1).f2), .int .i64 ((rd_T54 l1 x32_1).f3)]] rfl zG63 ?_; (with_reducible refine (impl_Carts_do.calls k1 gb114 x115000_1 x115001_1 x115002_1 (fun k_ => some k_ = (.slice Ao31 x115003_1.length co31 : Value).ownBlock) (.slice Ao31 x115003_1.length co31) x115003_1 ((rd_T54 l1 x32_1).f0) ((rd_T54 l1 x32_1).f1) ((rd_T54 l1 x32_1).f2) ((rd_T54 l1 x32_1).f3) t117 t118 t119 t120 t121 w _ ?side1 ?side2 ?side3 ?side4 A23.out).mono ?_); (case side1 => repeat (first | (with_reducible first | exact HB.out | apply zk | apply zf | apply zi | refine zh ?_ GE108.out | refine zh ?_ GE114.out | refine zh ?_ GE116.out) | exact HB.out)); (case side2 => exact zK158); (case side3 => exact GE114.out); (case side4 => exact zar rfl HO_115003.out); rintro e w32 ⟨v122, rfl, ho0, hz0, hb, hkp⟩; refine ⟨_, rfl, ?_⟩; have n_ := zA_ (za (zr (ok' := fun k_ => True) (zae ((zw (zai HO_8.out (zah HO_115003.out) zG89) BK114.out zG89)) hkp (fun k_ hk_ hs_ => Or.elim hs_ (fun hs_ => (hk_.1.2) hs_) (fun e_ => (hk_.2) e_))) (fun k_ hk_ => trivial))) (zA_ (za (zad zG76 hkp (fun hs_ => Or.elim hs_ (fun hs_ => (fun e_ => (zac HO_115003.out BK108.out zG89) e_) hs_) (fun e_ => NB108_114.out e_)))) (zA_ (za (hz0)) (zA_ (za (zad (by (with_reducible repeat (first | refine zd ?_ _ | refine zg ?_ | refine zb ?_ _)); exact BK116.out) hkp (fun hs_ => Or.elim hs_ (fun hs_ => (fun e_ => (zac HO_115003.out BK116.out zG89) e_) hs_) (fun e_ => NB116_114.out e_)))) (zA_ (za (zr (ok' := fun k_ => True) ho0 (fun k_ hk_ => trivial))) (za (hb)))))); clear HO_8 BK108 BK114 BK116 HB HO_115003; obtain ⟨HO_8, BK108, BK114, BK116, HO123, HB⟩ := n_; (try clear hb); (try clear hkp); (try clear ho0); (try clear hz0); have hnb33 := NB114_108.out; have hnc33 := NB108_114.out; obtain ⟨hcz34_0, hcz34_1, hcz34_2, hcz34_3, hfz34_0, hfz34_1, hfz34_2, hfz34_3⟩ := zB4 BK114.out) | ((with_reducible refine gate_builtin (b := .append) (xs := #[.tmp 38, .tmp 43]) rfl ?_); at_builtin; refine zbd k34 (w0 := w) w.heap.size rfl (.tmp 38) (.tmp 43) 27 34 (.agg #[(.int .i64 0), (.int .i64 0)]) 16 rfl Try.underlying27 info34 rfl zG89 (by omega) u8 x8_1 (⟨t117, t119⟩ : S34) [.int .i64 t117, .int .i64 t119] (fun _ => True) (fun _ => False) rfl rfl ?aP (fun _ hk => hk.elim) ?aF ?aO ?aB ?aS ?aL ?_; (case aP => exact k34_mkM _ _ _ (⟨t117, t119⟩ : S34)); (case aB => exact zK133); (case aF => exact (fun _ _ => trivial)); (case aO => exact zK176); (case aS => exact (zs zK133)); (case aL => have := LMc24.out; omega); intro v125 w35 ho hb hg hat; rw [← Ny124.out] at ho; have n_ := zA_ (za (zaf (g := gb108) (o := .cells #[.int .i64 0, .int .i64 0, .int .i64 0, .slice none 0 0] 30 (0, 0)) zG76 hg (zac HO_8.out BK108.out zG89))) (zA_ (za (zaf (g := gb114) (o := .cells #[.int .i64 t118, .int .i64 t119, .int .i64 t120, v122] 30 (0, 0)) zK158 hg (zac HO_8.out BK114.out zG89))) (zA_ (za (zaf (g := gb116) (o := .cells #[.int .i64 ((rd_T54 l1 x32_1).f0), .int .i64 ((rd_T54 l1 x32_1).f1), .int .i64 ((rd_T54 l1 x32_1).f2), .int .i64 ((rd_T54 l1 x32_1).f3)] 54 (0, 0)) (by (with_reducible repeat (first | refine zd ?_ _ | refine zg ?_ | refine zb ?_ _)); exact BK116.out) hg (zac HO_8.out BK116.out zG89))) (zA_ (za (Kd.R_over' (by (with_reducible repeat (first | apply zm | apply zl | apply zn)); exact HO123.out) (zah zK176) zG89 hg)) (zA_ (za (hb)) (za (ho)))))); clear BK108 BK114 BK116 HO123 HB HO_8; obtain ⟨BK108, BK114, BK116, HO123, HB, HO126⟩ := n_; clear ho hb hg hat))
    go_roundg k1
    case measure => have := HK1.out; omega
    case rel => exact ⟨(y124), (wrap64 (x32_1 + 1)), (t118), (t119), (t120), (t121), (v122), zG87, H', ⟨zH94⟩, ⟨by (with_reducible repeat (first | apply zm | apply zl | apply zn)); exact HO126.out⟩, ⟨by (with_reducible repeat (first | apply zm | apply zl | apply zn)); exact HO123.out⟩, ⟨by (with_reducible repeat (first | refine zd ?_ _ | refine zg ?_ | refine zb ?_ _)); exact BK108.out⟩, ⟨by (with_reducible repeat (first | refine zd ?_ _ | refine zg ?_ | refine zb ?_ _)); exact BK114.out⟩, ⟨by repeat (first | (with_reducible first | exact HB.out | apply zk | apply zf | apply zi | refine zh ?_ GE108.out | refine zh ?_ GE114.out | refine zh ?_ GE116.out) | exact HB.out)⟩⟩
   rw [if_neg c20] at H
   have c20b0 := decide_eq_false c20
   clear c20
   simp only [Option.some.injEq, Prod.mk.injEq] at H
   obtain ⟨rfl, rfl, rfl, rfl, rfl, rfl⟩ := H
   try go_wp2
   obtain ⟨n0_, n1_, n2_, n3_, n4_⟩ := zD5 (zn HO_8.out) (zn HO_115003.out) (zg BK108.out) (zg BK114.out) (zi HB.out)
   clear HO_8 HO_115003 BK108 BK114 HB
   have HO_8 := n0_
   have HO_115003 := n1_
   have BK108 := n2_
   have BK114 := n3_
   have HB := n4_
   clear n0_ n1_ n2_ n3_ n4_
   obtain ⟨Ao40, co40, eo40⟩ := zaa HO_115003.out
   (first | subst eo40 | (injection eo40 with f1_ f2_ f3_; have f4_ := f1_.symm; have f5_ := f3_.symm; clear f1_ f2_ f3_; subst f4_; subst f5_))
   refine start_ (n := 5) (S := fun w' => w'.cell? ⟨gb114, 0, none⟩ = some (.int .i64 x115000_1) ∧ w'.cell? ⟨gb114, 1, none⟩ = some (.int .i64 x115001_1) ∧ w'.cell? ⟨gb114, 2, none⟩ = some (.int .i64 x115002_1) ∧ w'.cell? ⟨gb114, 3, none⟩ = some (.slice Ao40 x115003_1.length co40)) (ds := []) #[false, false, false, false, false] zG88 rfl rfl ⟨(zc BK114.out 0).trans rfl, (zc BK114.out 1).trans rfl, (zc BK114.out 2).trans rfl, (zc BK114.out 3).trans rfl⟩ (fun hHeld => ?_)
   generalize wr.drew = w36 at HO_8 HO_115003 BK108 BK114 HB hHeld ⊢
   refine pure_ (i := 0) (N := some 46) (v := ?_) (a' := ?_) #[true, false, false, false, false] rfl rfl zG88 (fun _ _ _ h => h) (Or.inl ⟨by rfl, ?_⟩) ?_ ?_
   rotate_left
   ·intro w'
    go_simp
    with_reducible rfl
   rotate_left
   ·simp only [Act.put, List.setIfInBounds_toArray, List.set_cons_zero, List.set_cons_succ, i64_w, i32_w]
    rfl
   refine pure_ (i := 2) (N := some 4) (v := ?_) (a' := ?_) #[true, false, true, false, false] rfl rfl zG88 (fun _ _ _ h => h) (Or.inl ⟨by rfl, ?_⟩) ?_ ?_
   rotate_left
   ·intro w'
    go_simp
    with_reducible rfl
   rotate_left
   ·simp only [Act.put, List.setIfInBounds_toArray, List.set_cons_zero, List.set_cons_succ, i64_w, i32_w]
    rfl
   refine take_ (i := 1) (N := some 47) (v := ?_) (a' := ?_) #[true, true, true, false, false] rfl rfl zG88 (fun _ _ _ h => h) (Or.inl ⟨by rfl, ?_⟩) hHeld ?_ ?_
   rotate_left
   ·rintro w' ⟨s0, s1, s2, s3⟩
    go_simp
    with_reducible rfl
   rotate_left
   ·simp only [Act.put, List.setIfInBounds_toArray, List.set_cons_zero, List.set_cons_succ, i64_w, i32_w]
    rfl
   refine one_ (i := 3) (N := none) #[true, true, true, true, false] rfl rfl zG88 zG89 (fun K hK => ?_)
   have hs37 : w36.cell? ⟨gb108, 0, none⟩ = some (.int .i64 0) := (zc BK108.out 0).trans rfl
   have hfs37 := ze BK108.out 0
   have hns37_1 := NB114_108.out
   have hms37_1 := NB108_114.out
   have hs38 : w36.cell? ⟨gb108, 1, none⟩ = some (.int .i64 0) := (zc BK108.out 1).trans rfl
   have hfs38 := ze BK108.out 1
   have hns38_1 := NB114_108.out
   have hms38_1 := NB108_114.out
   have hs39 : w36.cell? ⟨gb108, 2, none⟩ = some (.int .i64 0) := (zc BK108.out 2).trans rfl
   have hfs39 := ze BK108.out 2
   have hns39_1 := NB114_108.out
   have hms39_1 := NB108_114.out
   have hs41 : w36.cell? ⟨gb108, 3, none⟩ = some (.slice none 0 0) := (zc BK108.out 3).trans rfl
   have hfs41 := ze BK108.out 3
   have hns41_1 := NB114_108.out
   have hms41_1 := NB108_114.out
   refine skip_ (w1 := ?_) (by rfl) rfl ?_ ?_
   rotate_left
   ·go_simp
    rfl
   refine hK.out _ _ ⟨((cell_far (p := ⟨gb108, _, none⟩) NB114_108.out _).trans (((cell_far (p := ⟨gb108, _, none⟩) NB114_108.out _).trans (((cell_far (p := ⟨gb108, _, none⟩) NB114_108.out _).trans (((cell_far (p := ⟨gb108, _, none⟩) NB114_108.out _).trans (hHeld.1)))))))), ((cell_far (p := ⟨gb108, _, none⟩) NB114_108.out _).trans (((cell_far (p := ⟨gb108, _, none⟩) NB114_108.out _).trans (((cell_far (p := ⟨gb108, _, none⟩) NB114_108.out _).trans (((cell_far (p := ⟨gb108, _, none⟩) NB114_108.out _).trans (hHeld.2.1)))))))), ((cell_far (p := ⟨gb108, _, none⟩) NB114_108.out _).trans (((cell_far (p := ⟨gb108, _, none⟩) NB114_108.out _).trans (((cell_far (p := ⟨gb108, _, none⟩) NB114_108.out _).trans (((cell_far (p := ⟨gb108, _, none⟩) NB114_108.out _).trans (hHeld.2.2.1)))))))), ((cell_far (p := ⟨gb108, _, none⟩) NB114_108.out _).trans (((cell_far (p := ⟨gb108, _, none⟩) NB114_108.out _).trans (((cell_far (p := ⟨gb108, _, none⟩) NB114_108.out _).trans (((cell_far (p := ⟨gb108, _, none⟩) NB114_108.out _).trans (hHeld.2.2.2))))))))⟩ (fun hHeld => ?_)
   clear hK K
   refine pure_ (i := 4) (N := some 6) (v := ?_) (a' := ?_) #[true, true, true, true, true] rfl rfl zG88 (fun _ _ _ h => h) (Or.inl ⟨by rfl, ?_⟩) ?_ ?_
   rotate_left
   ·intro w'
    go_simp
    with_reducible rfl
   rotate_left
   ·simp only [Act.put, List.setIfInBounds_toArray, List.set_cons_zero, List.set_cons_succ, i64_w, i32_w]
    rfl
   refine done_ zG88 ?_
   try go_wp2
   refine bodyPost_ret (results_list (rs := [.tmp 4, .cell 5 30, .tmp 6]) rfl (by simp) (.tmp (.cell gb108 30 #[.int .i64 x115000_1, .int .i64 x115001_1, .int .i64 x115002_1, .slice Ao40 x115003_1.length co40] (0, 0) _ rfl (by (with_reducible repeat (first | refine zd ?_ _ | refine zg ?_ | refine zb ?_ _)); refine zu (cs := #[.int .i64 x115000_1, .int .i64 x115001_1, .int .i64 x115002_1, .slice none 0 0]) ?_ 3 _ rfl; (with_reducible repeat (first | refine zd ?_ _ | refine zg ?_ | refine zb ?_ _)); refine zu (cs := #[.int .i64 x115000_1, .int .i64 x115001_1, .int .i64 0, .slice none 0 0]) ?_ 2 _ rfl; (with_reducible repeat (first | refine zd ?_ _ | refine zg ?_ | refine zb ?_ _)); refine zu (cs := #[.int .i64 x115000_1, .int .i64 0, .int .i64 0, .slice none 0 0]) ?_ 1 _ rfl; (with_reducible repeat (first | refine zd ?_ _ | refine zg ?_ | refine zb ?_ _)); refine zu (cs := #[.int .i64 0, .int .i64 0, .int .i64 0, .slice none 0 0]) ?_ 0 _ rfl; (with_reducible repeat (first | refine zd ?_ _ | refine zg ?_ | refine zb ?_ _)); exact BK108.out) Try.underlying30 rfl zG88 (.tmp .nil)))) rfl ?_
   exact ⟨_, _, zH78, by (with_reducible repeat (first | apply zm | apply zl | apply zn)); exact zr (zo (p := ⟨gb108, 3, none⟩) (zo (p := ⟨gb108, 2, none⟩) (zo (p := ⟨gb108, 1, none⟩) (zo (p := ⟨gb108, 0, none⟩) (zw HO_8.out BK108.out zG89) (fun _ hk => hk.2) (.int .i64 x115000_1)) (fun _ hk => hk.2) (.int .i64 x115001_1)) (fun _ hk => hk.2) (.int .i64 x115002_1)) (fun _ hk => hk.2) (.slice Ao40 x115003_1.length co40)) (fun _ hk => trivial), by (with_reducible repeat (first | apply zm | apply zl | apply zn)); exact zr (zo (p := ⟨gb108, 3, none⟩) (zo (p := ⟨gb108, 2, none⟩) (zo (p := ⟨gb108, 1, none⟩) (zo (p := ⟨gb108, 0, none⟩) (zw HO_115003.out BK108.out zG89) (fun _ hk => hk.2) (.int .i64 x115000_1)) (fun _ hk => hk.2) (.int .i64 x115001_1)) (fun _ hk => hk.2) (.int .i64 x115002_1)) (fun _ hk => hk.2) (.slice Ao40 x115003_1.length co40)) (fun _ hk => trivial), zH30⟩
/-! ### laws_szCartActS: function 8 -/
def laws_szCartActS.f (l0 : List (S60)) (a1 : Int) : Option (Int) := if (wrap64 (a1 - (l0.length : Int))) < 0 then (some (-1)) else (some (wrap64 (a1 - (l0.length : Int))))
set_option maxHeartbeats 64000000 in
set_option maxRecDepth 100000 in
theorem laws_szCartActS.calls (A0 : Option Addr) (c0 : Nat) (l0 : List (S60)) (a1 : Int) (r : Int) (w : World) (hr0 : Kd.C k60 w A0 l0.length l0) (hc0 : l0.length ≤ c0) (h : laws_szCartActS.f l0 a1 = some r) :
  Calls Try.prog 8 #[.slice A0 l0.length c0, .int .i64 a1] w fun e w' => e = .returned (.int .i64 r) ∧ Drawn0 w w' := by
 obtain ⟨HR0, HC0⟩ := zD2 hr0 hc0
 clear hr0 hc0
 have H : (if (wrap64 (a1 - (l0.length : Int))) < 0 then (some (-1)) else (some (wrap64 (a1 - (l0.length : Int))))) = some r := h
 clear h
 by_cases c3 : (wrap64 (a1 - (l0.length : Int))) < 0
 ·rw [if_pos c3] at H
  have c3b0 := decide_eq_true c3
  clear c3
  obtain rfl := Option.some.inj H
  go_enter Try.func8, Try.ntmps8
  go_wp2
  go_ret
  exact zH55
 rw [if_neg c3] at H
 have c3b0 := decide_eq_false c3
 clear c3
 obtain rfl := Option.some.inj H
 go_enter Try.func8, Try.ntmps8
 go_wp2
 go_ret
 exact zH55

/-! ### spec_l01In: function 25 -/
def spec_l01In.f (a0 : Int) (a1 : Int) (a2 : Int) : Option (Bool) := if a0 ≥ a1 then (some (decide (a0 ≤ a2))) else (some false)
set_option maxHeartbeats 64000000 in
set_option maxRecDepth 100000 in
theorem spec_l01In.calls (a0 : Int) (a1 : Int) (a2 : Int) (r : Bool) (w : World) (h : spec_l01In.f a0 a1 a2 = some r) :
  Calls Try.prog 25 #[.int .i64 a0, .int .i64 a1, .int .i64 a2] w fun e w' => e = .returned (.bool r) ∧ Drawn0 w w' := by
 have H : (if a0 ≥ a1 then (some (decide (a0 ≤ a2))) else (some false)) = some r := h
 clear h
 by_cases c4 : a0 ≥ a1
 ·rw [if_pos c4] at H
  have c4b0 : decide (a1 ≤ a0) = true := decide_eq_true c4
  clear c4
  obtain rfl := Option.some.inj H
  go_enter Try.func25, Try.ntmps25
  go_wp2
  go_ret
  exact zH55
 rw [if_neg c4] at H
 have c4b0 : decide (a1 ≤ a0) = false := decide_eq_false c4
 clear c4
 obtain rfl := Option.some.inj H
 go_enter Try.func25, Try.ntmps25
 go_wp2
 go_ret
 exact zH55

/-! ### spec_l23End: function 40 -/
def spec_l23End.l0 : Nat → Int → List (S36) → Int → Int → Int → Int → Int → List (S36) → Option (Int × Int × Int × (List (S36)) × Int)
 | 0, _, _, _, _, _, _, _, _ => none
 | k + 1, x1, x6, x7, x8, x128000, x128001, x128002, x128003 => if x8 < (x128003.length : Int) then (if 0 ≤ x8 then (if x1 > 0 then (if ((rd_T36 x128003 x8).f0) = x1 then (spec_l23End.l0 k x1 x6 (wrap64 (x7 + ((rd_T36 x128003 x8).f1))) (wrap64 (x8 + 1)) x128000 x128001 x128002 x128003) else (if x1 = 0 then (if ((rd_T36 x128003 x8).f2) ≤ x128000 then (spec_l23End.l0 k x1 x6 (wrap64 (x7 + ((rd_T36 x128003 x8).f1))) (wrap64 (x8 + 1)) x128000 x128001 x128002 x128003) else (if x6.length < 5864062014805 then (spec_l23End.l0 k x1 (x6 ++ [(⟨(rd_T36 x128003 x8).f0, (rd_T36 x128003 x8).f1, (rd_T36 x128003 x8).f2⟩ : S36)]) x7 (wrap64 (x8 + 1)) x128000 x128001 x128002 x128003) else (none))) else (if x6.length < 5864062014805 then (spec_l23End.l0 k x1 (x6 ++ [(⟨(rd_T36 x128003 x8).f0, (rd_T36 x128003 x8).f1, (rd_T36 x128003 x8).f2⟩ : S36)]) x7 (wrap64 (x8 + 1)) x128000 x128001 x128002 x128003) else (none)))) else (if x1 = 0 then (if ((rd_T36 x128003 x8).f2) ≤ x128000 then (spec_l23End.l0 k x1 x6 (wrap64 (x7 + ((rd_T36 x128003 x8).f1))) (wrap64 (x8 + 1)) x128000 x128001 x128002 x128003) else (if x6.length < 5864062014805 then (spec_l23End.l0 k x1 (x6 ++ [(⟨(rd_T36 x128003 x8).f0, (rd_T36 x128003 x8).f1, (rd_T36 x128003 x8).f2⟩ : S36)]) x7 (wrap64 (x8 + 1)) x128000 x128001 x128002 x128003) else (none))) else (if x6.length < 5864062014805 then (spec_l23End.l0 k x1 (x6 ++ [(⟨(rd_T36 x128003 x8).f0, (rd_T36 x128003 x8).f1, (rd_T36 x128003 x8).f2⟩ : S36)]) x7 (wrap64 (x8 + 1)) x128000 x128001 x128002 x128003) else (none)))) else (none)) else (some (x128000, x128001, x128002, x6, x7))
def spec_l23End.f (k : Nat) (a0_0 : Int) (a0_1 : Int) (a0_2 : Int) (l0_3 : List (S36)) (a1 : Int) : Option (Int × Int × Int × (List (S36)) × Int) := spec_l23End.l0 k a1 (([] : List (S36))) 0 0 a0_0 a0_1 a0_2 l0_3
theorem spec_l23End.mono_l : ∀ k, (∀ y0 y1 y2 y3 y4 y5 y6 y7, LeO (spec_l23End.l0 k y0 y1 y2 y3 y4 y5 y6 y7) (spec_l23End.l0 (k + 1) y0 y1 y2 y3 y4 y5 y6 y7))
 | 0 => fun _ _ _ _ _ _ _ _ r h => by simp [spec_l23End.l0] at h
 | k + 1 => by
  have ih0 := spec_l23End.mono_l k
  ·intro y0 y1 y2 y3 y4 y5 y6 y7
   unfold spec_l23End.l0
   repeat' first
   | (with_reducible exact ih0 _ _ _ _ _ _ _ _)
   | (with_reducible exact LeO.refl _)
   | (with_reducible exact LeO.none _)
   | (with_reducible refine LeO.ite ?_ ?_)
   | (with_reducible refine LeO.bind ?_ (fun _ => ?_))
   | exact ih0 _ _ _ _ _ _ _ _
   | exact LeO.none _
   | refine LeO.ite ?_ ?_
   | refine LeO.bind ?_ (fun _ => ?_)
theorem spec_l23End.mono : ∀ a0 a1 a2 a3 a4 k, LeO (spec_l23End.f k a0 a1 a2 a3 a4) (spec_l23End.f (k + 1) a0 a1 a2 a3 a4) := by
 intro a0 a1 a2 a3 a4 k
 have ih0 := spec_l23End.mono_l k
 unfold spec_l23End.f
 repeat' first
   | (with_reducible exact ih0 _ _ _ _ _ _ _ _)
   | (with_reducible exact LeO.refl _)
   | (with_reducible exact LeO.none _)
   | (with_reducible refine LeO.ite ?_ ?_)
   | (with_reducible refine LeO.bind ?_ (fun _ => ?_))
   | exact ih0 _ _ _ _ _ _ _ _
   | exact LeO.none _
   | refine LeO.ite ?_ ?_
   | refine LeO.bind ?_ (fun _ => ?_)
set_option maxHeartbeats 64000000 in
set_option maxRecDepth 100000 in
theorem spec_l23End.calls (k : Nat) (a0_0 : Int) (a0_1 : Int) (a0_2 : Int) (A0_3 : Option Addr) (c0_3 : Nat) (l0_3 : List (S36)) (a1 : Int) (r1 : Int) (r2 : Int) (r3 : Int) (r4 : List (S36)) (r5 : Int) (w : World) (hr0_3 : Kd.C k36 w A0_3 l0_3.length l0_3) (hc0_3 : l0_3.length ≤ c0_3) (h : spec_l23End.f k a0_0 a0_1 a0_2 l0_3 a1 = some (r1, r2, r3, r4, r5)) :
  Calls Try.prog 40 #[.agg #[.int .i64 a0_0, .int .i64 a0_1, .int .i64 a0_2, .slice A0_3 l0_3.length c0_3], .int .i64 a1] w fun e w' => ∃ v3_ : Value, e = .returned (.tuple #[.agg #[.int .i64 r1, .int .i64 r2, .int .i64 r3, v3_], .int .i64 r5]) ∧ Kd.R k36 36 w' w.heap.size (fun _ => True) v3_ r4 ∧ Below w.heap.size w w' := by
 have hu30 := Try.underlying30
 have hu36 := Try.underlying36
 obtain ⟨HR0_3, HC0_3, HB⟩ := zD3 hr0_3 hc0_3 (Below.refl w.heap.size w)
 clear hr0_3 hc0_3
 have H : (spec_l23End.l0 k a1 (([] : List (S36))) 0 0 a0_0 a0_1 a0_2 l0_3) = some (r1, r2, r3, r4, r5) := h
 clear h
 obtain ⟨y129, hy129⟩ : ∃ y_ : List (S36), y_ = (([] : List (S36))) := ⟨_, rfl⟩
 replace H : (spec_l23End.l0 k a1 y129 0 0 a0_0 a0_1 a0_2 l0_3) = some (r1, r2, r3, r4, r5) := by first | (rw [hy129]; with_reducible exact H) | (have H2_ := (Option.bind_some _ _).symm.trans H; rw [hy129]; with_reducible exact H2_) | (have H2_ := (Option.bind_some _ _).symm.trans H; with_reducible exact H2_) | with_reducible exact H | (rw [hy129]; exact H) | exact H
 have Ny129 := za hy129
 clear hy129
 have H' := za H
 clear H
 go_enter Try.func40, Try.ntmps40
 go_wp2_with (first | ((with_reducible refine gate_dst (N := 2) rfl ?_); refine box_event ?hg (N := 2) ?hd (cs := #[.int .i64 a0_0, .int .i64 a0_1, .int .i64 a0_2, .slice A0_3 l0_3.length c0_3]) (t := 30) ?hr ?_; (case hd => rfl); (case hg => rfl); (case hr => exact zH89); intro gb127 hg w3 hbox hb; have n_ := zA_ (za (zt zG70 hb)) (zA_ (za (hbox)) (zA_ (zN1 w.heap.size hg (zs zG70)) (zN1 w.heap.size hg (zs zG70)))); clear HB; obtain ⟨HB, BK127, GW127, GE127⟩ := n_; clear hb hbox hg) | ((with_reducible refine gate_dst (N := 4) rfl ?_); refine box_event ?hg (N := 4) ?hd (cs := #[.int .i64 0, .int .i64 0, .int .i64 0, .slice none 0 0]) (t := 30) ?hr ?_; (case hd => rfl); (case hg => rfl); (case hr => exact zH89); intro gb128 hg w4 hbox hb; have n_ := zA_ (za (zq (g := gb127) (o := .cells #[.int .i64 a0_0, .int .i64 a0_1, .int .i64 a0_2, .slice A0_3 l0_3.length c0_3] 30 (0, 0)) zG77 hb)) (zA_ (za (zt zK144 hb)) (zA_ (za (hbox)) (zA_ (zN1 w.heap.size hg (zs zK144)) (zA_ (zN1 w.heap.size hg (zs zK144)) (zN2 hg (zx (g := gb127) (o := .cells #[.int .i64 a0_0, .int .i64 a0_1, .int .i64 a0_2, .slice A0_3 l0_3.length c0_3] 30 (0, 0)) zG77)))))); clear BK127 HB; obtain ⟨BK127, HB, BK128, GW128, GE128, NB127_128, NB128_127⟩ := n_; clear hb hbox hg) | ((with_reducible refine gate_dst (N := 10) rfl ?_); refine Kd.R_lit k36 _ 36 ?hg (N := 10) ?hd (xs := ([] : List (S36))) (inner := []) (ok := fun _ => True) (okp := fun _ => True) ?hr ?hp (fun _ hk => hk) trivial (Below.refl _ _) (Nat.le_refl _) (by simp) ?_; (case hd => rfl); (case hg => rfl); (case hr => exact zH89); (case hp => exact (Reps.none _ _)); intro v130 w5 ho6 hb hg_ hnew_; clear hg_ hnew_; (first | rw [← Ny129.out] at ho6 | (simp only [Int.reduceToNat] at ho6; rw [← Ny129.out] at ho6)); have n_ := zA_ (za (zag ho6 (zs zG62))) (zA_ (za (zq (g := gb127) (o := .cells #[.int .i64 a0_0, .int .i64 a0_1, .int .i64 a0_2, .slice A0_3 l0_3.length c0_3] 30 (0, 0)) zG77 hb)) (zA_ (za (zq (g := gb128) (o := .cells #[.int .i64 0, .int .i64 0, .int .i64 0, .slice none 0 0] 30 (0, 0)) zG78 hb)) (za (zt zG62 hb)))); clear BK127 BK128 HB; obtain ⟨HO131, BK127, BK128, HB⟩ := n_; clear hb ho6))
 go_loopg [6, 7, 8] k (fun kq v6 v7 v8 w' => ∃ (x6_1 : List (S36)) (x7_1 : Int) (x8_1 : Int), v7 = .int .i64 x7_1 ∧ v8 = .int .i64 x8_1 ∧ Aside0 (spec_l23End.l0 kq a1 x6_1 x7_1 x8_1 a0_0 a0_1 a0_2 l0_3 = some (r1, r2, r3, r4, r5)) ∧ Aside0 (kq ≤ k) ∧ Aside0 (Kd.R k36 36 w' w.heap.size (fun _ => True) v6 x6_1) ∧ Aside0 (w'.heap[gb127]? = some (.cells #[.int .i64 a0_0, .int .i64 a0_1, .int .i64 a0_2, (.slice A0_3 l0_3.length c0_3)] 30 (0, 0))) ∧ Aside0 (w'.heap[gb128]? = some (.cells #[.int .i64 0, .int .i64 0, .int .i64 0, (.slice none 0 0)] 30 (0, 0))) ∧ Aside0 (Below w.heap.size w w'))
 case atStart => exact ⟨(y129), (0), (0), zG87, zG87, H', ⟨Nat.le_refl _⟩, ⟨by (with_reducible repeat (first | apply zm | apply zl | apply zn)); exact HO131.out⟩, ⟨zH69⟩, ⟨zH70⟩, ⟨zH31⟩⟩
 case round =>
  clear H'
  obtain ⟨x6_1, x7_1, x8_1, rfl, rfl, HA, HK1, HO_6, BK127, BK128, HB⟩ := hrel
  cases gk with
  | zero => exact absurd HA.out (by simp [spec_l23End.l0])
  | succ k1 =>
   have H := HA.out
   clear HA
   simp only [spec_l23End.l0] at H
   by_cases c7 : x8_1 < (l0_3.length : Int)
   rotate_left
   ·rw [if_neg c7] at H
    have c7b0 := decide_eq_false c7
    clear c7
    simp only [Option.some.injEq, Prod.mk.injEq] at H
    obtain ⟨rfl, rfl, rfl, rfl, rfl⟩ := H
    have hnb69 := NB127_128.out
    have hnc69 := NB128_127.out
    obtain ⟨hcz70_0, hcz70_1, hcz70_2, hcz70_3, hfz70_0, hfz70_1, hfz70_2, hfz70_3⟩ := zB4 BK127.out
    obtain ⟨Ao71, co71, eo71⟩ := zaa HO_6.out
    subst eo71
    obtain ⟨hcz72_0, hcz72_1, hcz72_2, hcz72_3, hfz72_0, hfz72_1, hfz72_2, hfz72_3⟩ := zB4 BK128.out
    go_wp2
    refine bodyPost_ret (results_ct rfl _ _ gb128 30 #[.int .i64 a0_0, .int .i64 a0_1, .int .i64 a0_2, .slice Ao71 x6_1.length co71] (0, 0) _ rfl (by (with_reducible repeat (first | refine zd ?_ _ | refine zg ?_ | refine zb ?_ _)); refine zu (cs := #[.int .i64 a0_0, .int .i64 a0_1, .int .i64 a0_2, .slice none 0 0]) ?_ 3 _ rfl; (with_reducible repeat (first | refine zd ?_ _ | refine zg ?_ | refine zb ?_ _)); refine zu (cs := #[.int .i64 a0_0, .int .i64 a0_1, .int .i64 0, .slice none 0 0]) ?_ 2 _ rfl; (with_reducible repeat (first | refine zd ?_ _ | refine zg ?_ | refine zb ?_ _)); refine zu (cs := #[.int .i64 a0_0, .int .i64 0, .int .i64 0, .slice none 0 0]) ?_ 1 _ rfl; (with_reducible repeat (first | refine zd ?_ _ | refine zg ?_ | refine zb ?_ _)); refine zu (cs := #[.int .i64 0, .int .i64 0, .int .i64 0, .slice none 0 0]) ?_ 0 _ rfl; (with_reducible repeat (first | refine zd ?_ _ | refine zg ?_ | refine zb ?_ _)); refine zv ?_ NB128_127.out _; (with_reducible repeat (first | refine zd ?_ _ | refine zg ?_ | refine zb ?_ _)); exact BK128.out) Try.underlying30 rfl zG88) rfl ?_
    exact ⟨_, zH78, by (with_reducible repeat (first | apply zm | apply zl | apply zn)); exact zr (zo (p := ⟨gb128, 3, none⟩) (zo (p := ⟨gb128, 2, none⟩) (zo (p := ⟨gb128, 1, none⟩) (zo (p := ⟨gb128, 0, none⟩) (zo (p := ⟨gb127, 3, none⟩) (zw (zw HO_6.out BK127.out zG89) BK128.out zG89) (fun _ hk => hk.1.2) (.slice Ao71 x6_1.length co71)) (fun _ hk => hk.2) (.int .i64 a0_0)) (fun _ hk => hk.2) (.int .i64 a0_1)) (fun _ hk => hk.2) (.int .i64 a0_2)) (fun _ hk => hk.2) (.slice Ao71 x6_1.length co71)) (fun _ hk => trivial), zH31⟩

   rw [if_pos c7] at H
   have c7b0 := decide_eq_true c7
   clear c7
   by_cases c8 : 0 ≤ x8_1
   rotate_left
   ·rw [if_neg c8] at H
    exact absurd H (by simp)
   rw [if_pos c8] at H
   have c8b0 := decide_eq_true c8
   clear c8
   by_cases c9 : a1 > 0
   rotate_left
   ·rw [if_neg c9] at H
    have c9b0 : decide (0 < a1) = false := decide_eq_false c9
    clear c9
    by_cases c43 : a1 = 0
    rotate_left
    ·rw [if_neg c43] at H
     have c43b0 : (a1 == 0) = false := beq_eq_false_iff_ne.mpr c43
     have c43b1 : (a1 != 0) = true := bne_iff_ne.mpr c43
     by_cases c61 : x6_1.length < 5864062014805
     rotate_left
     ·rw [if_neg c61] at H
      exact absurd H (by simp)
     rw [if_pos c61] at H
     have LMc61 := za c61
     clear c61
     obtain ⟨y143, hy143⟩ : ∃ y_ : List (S36), y_ = (x6_1 ++ [(⟨(rd_T36 l0_3 x8_1).f0, (rd_T36 l0_3 x8_1).f1, (rd_T36 l0_3 x8_1).f2⟩ : S36)]) := ⟨_, rfl⟩
     replace H : (spec_l23End.l0 k1 a1 y143 x7_1 (wrap64 (x8_1 + 1)) a0_0 a0_1 a0_2 l0_3) = some (r1, r2, r3, r4, r5) := by first | (rw [hy143]; with_reducible exact H) | (have H2_ := (Option.bind_some _ _).symm.trans H; rw [hy143]; with_reducible exact H2_) | (have H2_ := (Option.bind_some _ _).symm.trans H; with_reducible exact H2_) | with_reducible exact H | (rw [hy143]; exact H) | exact H
     have Ny143 := za hy143
     clear hy143
     have H' := za H
     clear H
     have hnb62 := NB127_128.out
     have hnc62 := NB128_127.out
     obtain ⟨hcz63_0, hcz63_1, hcz63_2, hcz63_3, hfz63_0, hfz63_1, hfz63_2, hfz63_3⟩ := zB4 BK127.out
     have p132 : 0 ≤ (x8_1 : Int) := zO
     have q132 : x8_1 < (l0_3.length : Int) := zO
     obtain ⟨ad132, e132, hx132_0, hx132_1, hx132_2⟩ := at_T36 HR0_3.out x8_1 p132 q132
     cases e132
     replace hx132_0 := (HB.out.cell (zj w _ hx132_0)).trans hx132_0
     replace hx132_1 := (HB.out.cell (zj w _ hx132_1)).trans hx132_1
     replace hx132_2 := (HB.out.cell (zj w _ hx132_2)).trans hx132_2
     replace p132 := eq_true p132
     replace q132 := eq_true q132
     go_wp2_with (first | ((with_reducible refine gate_dst (N := 9) rfl ?_); refine box_event ?hg (N := 9) ?hd (cs := #[.int .i64 0, .int .i64 0, .int .i64 0]) (t := 36) ?hr ?_; (case hd => rfl); (case hg => rfl); (case hr => exact zH89); intro gb133 hg w64 hbox hb; have n_ := zA_ (za (zp (zbb zG86 gb133 (Nat.le_of_eq hg.symm)) hb)) (zA_ (za (zq (g := gb127) (o := .cells #[.int .i64 a0_0, .int .i64 a0_1, .int .i64 a0_2, .slice (some ad132) l0_3.length c0_3] 30 (0, 0)) zG77 hb)) (zA_ (za (zq (g := gb128) (o := .cells #[.int .i64 0, .int .i64 0, .int .i64 0, .slice none 0 0] 30 (0, 0)) zG78 hb)) (zA_ (za (zt zG62 hb)) (zA_ (za (hbox)) (zA_ (zN1 w.heap.size hg (zs zG62)) (zA_ (zN1 w.heap.size hg (zs zG62)) (zN3 hg (zx (g := gb127) (o := .cells #[.int .i64 a0_0, .int .i64 a0_1, .int .i64 a0_2, .slice (some ad132) l0_3.length c0_3] 30 (0, 0)) zG77) (zN2 hg (zx (g := gb128) (o := .cells #[.int .i64 0, .int .i64 0, .int .i64 0, .slice none 0 0] 30 (0, 0)) zG78))))))))); clear HO_6 BK127 BK128 HB; obtain ⟨HO_6, BK127, BK128, HB, BK133, GW133, GE133, NB127_133, NB133_127, NB128_133, NB133_128⟩ := n_; clear hb hbox hg; have hnb65 := NB133_127.out; have hnc65 := NB127_133.out; have hnb66 := NB133_128.out; have hnc66 := NB128_133.out; obtain ⟨hcz67_0, hcz67_1, hcz67_2, hfz67_0, hfz67_1, hfz67_2⟩ := zB3 BK133.out) | ((with_reducible refine gate_builtin (b := .append) (xs := #[.tmp 46, .tmp 48]) rfl ?_); at_builtin; refine zbd k36 (w0 := w) w.heap.size rfl (.tmp 46) (.tmp 48) 28 36 (.agg #[(.int .i64 0), (.int .i64 0), (.int .i64 0)]) 24 rfl Try.underlying28 info36 rfl zG89 (by omega) u6 x6_1 (⟨(rd_T36 l0_3 x8_1).f0, (rd_T36 l0_3 x8_1).f1, (rd_T36 l0_3 x8_1).f2⟩ : S36) [.int .i64 ((rd_T36 l0_3 x8_1).f0), .int .i64 ((rd_T36 l0_3 x8_1).f1), .int .i64 ((rd_T36 l0_3 x8_1).f2)] (fun k_ => k_ ≠ gb133) (fun _ => False) rfl zK178 ?aP (fun _ hk => hk.elim) ?aF ?aO ?aB ?aS ?aL ?_; (case aP => exact zH77); (case aB => exact zH25); (case aF => exact zH2); (case aO => exact zH8); (case aS => exact zH23); (case aL => have := LMc61.out; omega); intro v144 w68 ho hb hg hat; rw [← Ny143.out] at ho; have n_ := zA_ (za (zaf (g := gb127) (o := .cells #[.int .i64 a0_0, .int .i64 a0_1, .int .i64 a0_2, .slice (some ad132) l0_3.length c0_3] 30 (0, 0)) zK108 hg (zac HO_6.out BK127.out zG89))) (zA_ (za (zaf (g := gb128) (o := .cells #[.int .i64 0, .int .i64 0, .int .i64 0, .slice none 0 0] 30 (0, 0)) zK109 hg (zac HO_6.out BK128.out zG89))) (zA_ (za (zaf (g := gb133) (o := .cells #[.int .i64 ((rd_T36 l0_3 x8_1).f0), .int .i64 ((rd_T36 l0_3 x8_1).f1), .int .i64 ((rd_T36 l0_3 x8_1).f2)] 36 (0, 0)) zK100 hg (Kd.R_away HO_6.out (fun _ hk => hk.2)))) (zA_ (za (hb)) (za (ho))))); clear BK127 BK128 BK133 HB HO_6; obtain ⟨BK127, BK128, BK133, HB, HO145⟩ := n_; clear ho hb hg hat))
     go_roundg k1
     case measure => have := HK1.out; omega
     case rel => exact ⟨(y143), (x7_1), (wrap64 (x8_1 + 1)), zG87, zG87, H', ⟨zH94⟩, ⟨by (with_reducible repeat (first | apply zm | apply zl | apply zn)); exact zr HO145.out (fun _ hk => trivial)⟩, ⟨zH69⟩, ⟨zH70⟩, ⟨zH26⟩⟩
    rw [if_pos c43] at H
    have c43b0 : (a1 == 0) = true := beq_iff_eq.mpr c43
    have c43b1 : (a1 != 0) = false := bne_eq_false_iff_eq.mpr c43
    clear c43
    by_cases c44 : ((rd_T36 l0_3 x8_1).f2) ≤ a0_0
    ·rw [if_pos c44] at H
     have c44b0 := decide_eq_true c44
     clear c44
     have H' := za H
     clear H
     have hnb45 := NB127_128.out
     have hnc45 := NB128_127.out
     obtain ⟨hcz46_0, hcz46_1, hcz46_2, hcz46_3, hfz46_0, hfz46_1, hfz46_2, hfz46_3⟩ := zB4 BK127.out
     have p132 : 0 ≤ (x8_1 : Int) := zO
     have q132 : x8_1 < (l0_3.length : Int) := zO
     obtain ⟨ad132, e132, hx132_0, hx132_1, hx132_2⟩ := at_T36 HR0_3.out x8_1 p132 q132
     cases e132
     replace hx132_0 := (HB.out.cell (zj w _ hx132_0)).trans hx132_0
     replace hx132_1 := (HB.out.cell (zj w _ hx132_1)).trans hx132_1
     replace hx132_2 := (HB.out.cell (zj w _ hx132_2)).trans hx132_2
     replace p132 := eq_true p132
     replace q132 := eq_true q132
     go_wp2_with (first | ((with_reducible refine gate_dst (N := 9) rfl ?_); refine box_event ?hg (N := 9) ?hd (cs := #[.int .i64 0, .int .i64 0, .int .i64 0]) (t := 36) ?hr ?_; (case hd => rfl); (case hg => rfl); (case hr => exact zH89); intro gb133 hg w47 hbox hb; have n_ := zA_ (za (zp (zbb zG86 gb133 (Nat.le_of_eq hg.symm)) hb)) (zA_ (za (zq (g := gb127) (o := .cells #[.int .i64 a0_0, .int .i64 a0_1, .int .i64 a0_2, .slice (some ad132) l0_3.length c0_3] 30 (0, 0)) zG77 hb)) (zA_ (za (zq (g := gb128) (o := .cells #[.int .i64 0, .int .i64 0, .int .i64 0, .slice none 0 0] 30 (0, 0)) zG78 hb)) (zA_ (za (zt zG62 hb)) (zA_ (za (hbox)) (zA_ (zN1 w.heap.size hg (zs zG62)) (zA_ (zN1 w.heap.size hg (zs zG62)) (zN3 hg (zx (g := gb127) (o := .cells #[.int .i64 a0_0, .int .i64 a0_1, .int .i64 a0_2, .slice (some ad132) l0_3.length c0_3] 30 (0, 0)) zG77) (zN2 hg (zx (g := gb128) (o := .cells #[.int .i64 0, .int .i64 0, .int .i64 0, .slice none 0 0] 30 (0, 0)) zG78))))))))); clear HO_6 BK127 BK128 HB; obtain ⟨HO_6, BK127, BK128, HB, BK133, GW133, GE133, NB127_133, NB133_127, NB128_133, NB133_128⟩ := n_; clear hb hbox hg; have hnb48 := NB133_127.out; have hnc48 := NB127_133.out; have hnb49 := NB133_128.out; have hnc49 := NB128_133.out; obtain ⟨hcz50_0, hcz50_1, hcz50_2, hfz50_0, hfz50_1, hfz50_2⟩ := zB3 BK133.out; obtain ⟨hcz51_0, hcz51_1, hcz51_2, hcz51_3, hfz51_0, hfz51_1, hfz51_2, hfz51_3⟩ := zB4 BK127.out))
     go_roundg k1
     case measure => have := HK1.out; omega
     case rel => exact ⟨(x6_1), (wrap64 (x7_1 + ((rd_T36 l0_3 x8_1).f1))), (wrap64 (x8_1 + 1)), zG87, zG87, H', ⟨zH94⟩, ⟨zH9⟩, ⟨zH5⟩, ⟨zH6⟩, ⟨zH26⟩⟩
    rw [if_neg c44] at H
    have c44b0 := decide_eq_false c44
    clear c44
    by_cases c52 : x6_1.length < 5864062014805
    rotate_left
    ·rw [if_neg c52] at H
     exact absurd H (by simp)
    rw [if_pos c52] at H
    have LMc52 := za c52
    clear c52
    obtain ⟨y140, hy140⟩ : ∃ y_ : List (S36), y_ = (x6_1 ++ [(⟨(rd_T36 l0_3 x8_1).f0, (rd_T36 l0_3 x8_1).f1, (rd_T36 l0_3 x8_1).f2⟩ : S36)]) := ⟨_, rfl⟩
    replace H : (spec_l23End.l0 k1 a1 y140 x7_1 (wrap64 (x8_1 + 1)) a0_0 a0_1 a0_2 l0_3) = some (r1, r2, r3, r4, r5) := by first | (rw [hy140]; with_reducible exact H) | (have H2_ := (Option.bind_some _ _).symm.trans H; rw [hy140]; with_reducible exact H2_) | (have H2_ := (Option.bind_some _ _).symm.trans H; with_reducible exact H2_) | with_reducible exact H | (rw [hy140]; exact H) | exact H
    have Ny140 := za hy140
    clear hy140
    have H' := za H
    clear H
    have hnb53 := NB127_128.out
    have hnc53 := NB128_127.out
    obtain ⟨hcz54_0, hcz54_1, hcz54_2, hcz54_3, hfz54_0, hfz54_1, hfz54_2, hfz54_3⟩ := zB4 BK127.out
    have p132 : 0 ≤ (x8_1 : Int) := zO
    have q132 : x8_1 < (l0_3.length : Int) := zO
    obtain ⟨ad132, e132, hx132_0, hx132_1, hx132_2⟩ := at_T36 HR0_3.out x8_1 p132 q132
    cases e132
    replace hx132_0 := (HB.out.cell (zj w _ hx132_0)).trans hx132_0
    replace hx132_1 := (HB.out.cell (zj w _ hx132_1)).trans hx132_1
    replace hx132_2 := (HB.out.cell (zj w _ hx132_2)).trans hx132_2
    replace p132 := eq_true p132
    replace q132 := eq_true q132
    go_wp2_with (first | ((with_reducible refine gate_dst (N := 9) rfl ?_); refine box_event ?hg (N := 9) ?hd (cs := #[.int .i64 0, .int .i64 0, .int .i64 0]) (t := 36) ?hr ?_; (case hd => rfl); (case hg => rfl); (case hr => exact zH89); intro gb133 hg w55 hbox hb; have n_ := zA_ (za (zp (zbb zG86 gb133 (Nat.le_of_eq hg.symm)) hb)) (zA_ (za (zq (g := gb127) (o := .cells #[.int .i64 a0_0, .int .i64 a0_1, .int .i64 a0_2, .slice (some ad132) l0_3.length c0_3] 30 (0, 0)) zG77 hb)) (zA_ (za (zq (g := gb128) (o := .cells #[.int .i64 0, .int .i64 0, .int .i64 0, .slice none 0 0] 30 (0, 0)) zG78 hb)) (zA_ (za (zt zG62 hb)) (zA_ (za (hbox)) (zA_ (zN1 w.heap.size hg (zs zG62)) (zA_ (zN1 w.heap.size hg (zs zG62)) (zN3 hg (zx (g := gb127) (o := .cells #[.int .i64 a0_0, .int .i64 a0_1, .int .i64 a0_2, .slice (some ad132) l0_3.length c0_3] 30 (0, 0)) zG77) (zN2 hg (zx (g := gb128) (o := .cells #[.int .i64 0, .int .i64 0, .int .i64 0, .slice none 0 0] 30 (0, 0)) zG78))))))))); clear HO_6 BK127 BK128 HB; obtain ⟨HO_6, BK127, BK128, HB, BK133, GW133, GE133, NB127_133, NB133_127, NB128_133, NB133_128⟩ := n_; clear hb hbox hg; have hnb56 := NB133_127.out; have hnc56 := NB127_133.out; have hnb57 := NB133_128.out; have hnc57 := NB128_133.out; obtain ⟨hcz58_0, hcz58_1, hcz58_2, hfz58_0, hfz58_1, hfz58_2⟩ := zB3 BK133.out; obtain ⟨hcz59_0, hcz59_1, hcz59_2, hcz59_3, hfz59_0, hfz59_1, hfz59_2, hfz59_3⟩ := zB4 BK127.out) | ((with_reducible refine gate_builtin (b := .append) (xs := #[.tmp 46, .tmp 48]) rfl ?_); at_builtin; refine zbd k36 (w0 := w) w.heap.size rfl (.tmp 46) (.tmp 48) 28 36 (.agg #[(.int .i64 0), (.int .i64 0), (.int .i64 0)]) 24 rfl Try.underlying28 info36 rfl zG89 (by omega) u6 x6_1 (⟨(rd_T36 l0_3 x8_1).f0, (rd_T36 l0_3 x8_1).f1, (rd_T36 l0_3 x8_1).f2⟩ : S36) [.int .i64 ((rd_T36 l0_3 x8_1).f0), .int .i64 ((rd_T36 l0_3 x8_1).f1), .int .i64 ((rd_T36 l0_3 x8_1).f2)] (fun k_ => k_ ≠ gb133) (fun _ => False) rfl zK178 ?aP (fun _ hk => hk.elim) ?aF ?aO ?aB ?aS ?aL ?_; (case aP => exact zH77); (case aB => exact zH25); (case aF => exact zH2); (case aO => exact zH8); (case aS => exact zH23); (case aL => have := LMc52.out; omega); intro v141 w60 ho hb hg hat; rw [← Ny140.out] at ho; have n_ := zA_ (za (zaf (g := gb127) (o := .cells #[.int .i64 a0_0, .int .i64 a0_1, .int .i64 a0_2, .slice (some ad132) l0_3.length c0_3] 30 (0, 0)) zK108 hg (zac HO_6.out BK127.out zG89))) (zA_ (za (zaf (g := gb128) (o := .cells #[.int .i64 0, .int .i64 0, .int .i64 0, .slice none 0 0] 30 (0, 0)) zK109 hg (zac HO_6.out BK128.out zG89))) (zA_ (za (zaf (g := gb133) (o := .cells #[.int .i64 ((rd_T36 l0_3 x8_1).f0), .int .i64 ((rd_T36 l0_3 x8_1).f1), .int .i64 ((rd_T36 l0_3 x8_1).f2)] 36 (0, 0)) zK100 hg (Kd.R_away HO_6.out (fun _ hk => hk.2)))) (zA_ (za (hb)) (za (ho))))); clear BK127 BK128 BK133 HB HO_6; obtain ⟨BK127, BK128, BK133, HB, HO142⟩ := n_; clear ho hb hg hat))
    go_roundg k1
    case measure => have := HK1.out; omega
    case rel => exact ⟨(y140), (x7_1), (wrap64 (x8_1 + 1)), zG87, zG87, H', ⟨zH94⟩, ⟨by (with_reducible repeat (first | apply zm | apply zl | apply zn)); exact zr HO142.out (fun _ hk => trivial)⟩, ⟨zH69⟩, ⟨zH70⟩, ⟨zH26⟩⟩
   rw [if_pos c9] at H
   have c9b0 : decide (0 < a1) = true := decide_eq_true c9
   clear c9
   by_cases c10 : ((rd_T36 l0_3 x8_1).f0) = a1
   ·rw [if_pos c10] at H
    have c10b0 : (((rd_T36 l0_3 x8_1).f0) == a1) = true := beq_iff_eq.mpr c10
    have c10b1 : (((rd_T36 l0_3 x8_1).f0) != a1) = false := bne_eq_false_iff_eq.mpr c10
    clear c10
    have H' := za H
    clear H
    have hnb11 := NB127_128.out
    have hnc11 := NB128_127.out
    obtain ⟨hcz12_0, hcz12_1, hcz12_2, hcz12_3, hfz12_0, hfz12_1, hfz12_2, hfz12_3⟩ := zB4 BK127.out
    have p132 : 0 ≤ (x8_1 : Int) := zO
    have q132 : x8_1 < (l0_3.length : Int) := zO
    obtain ⟨ad132, e132, hx132_0, hx132_1, hx132_2⟩ := at_T36 HR0_3.out x8_1 p132 q132
    cases e132
    replace hx132_0 := (HB.out.cell (zj w _ hx132_0)).trans hx132_0
    replace hx132_1 := (HB.out.cell (zj w _ hx132_1)).trans hx132_1
    replace hx132_2 := (HB.out.cell (zj w _ hx132_2)).trans hx132_2
    replace p132 := eq_true p132
    replace q132 := eq_true q132
    go_wp2_with (first | ((with_reducible refine gate_dst (N := 9) rfl ?_); refine box_event ?hg (N := 9) ?hd (cs := #[.int .i64 0, .int .i64 0, .int .i64 0]) (t := 36) ?hr ?_; (case hd => rfl); (case hg => rfl); (case hr => exact zH89); intro gb133 hg w13 hbox hb; have n_ := zA_ (za (zp (zbb zG86 gb133 (Nat.le_of_eq hg.symm)) hb)) (zA_ (za (zq (g := gb127) (o := .cells #[.int .i64 a0_0, .int .i64 a0_1, .int .i64 a0_2, .slice (some ad132) l0_3.length c0_3] 30 (0, 0)) zG77 hb)) (zA_ (za (zq (g := gb128) (o := .cells #[.int .i64 0, .int .i64 0, .int .i64 0, .slice none 0 0] 30 (0, 0)) zG78 hb)) (zA_ (za (zt zG62 hb)) (zA_ (za (hbox)) (zA_ (zN1 w.heap.size hg (zs zG62)) (zA_ (zN1 w.heap.size hg (zs zG62)) (zN3 hg (zx (g := gb127) (o := .cells #[.int .i64 a0_0, .int .i64 a0_1, .int .i64 a0_2, .slice (some ad132) l0_3.length c0_3] 30 (0, 0)) zG77) (zN2 hg (zx (g := gb128) (o := .cells #[.int .i64 0, .int .i64 0, .int .i64 0, .slice none 0 0] 30 (0, 0)) zG78))))))))); clear HO_6 BK127 BK128 HB; obtain ⟨HO_6, BK127, BK128, HB, BK133, GW133, GE133, NB127_133, NB133_127, NB128_133, NB133_128⟩ := n_; clear hb hbox hg; have hnb14 := NB133_127.out; have hnc14 := NB127_133.out; have hnb15 := NB133_128.out; have hnc15 := NB128_133.out; obtain ⟨hcz16_0, hcz16_1, hcz16_2, hfz16_0, hfz16_1, hfz16_2⟩ := zB3 BK133.out))
    go_roundg k1
    case measure => have := HK1.out; omega
    case rel => exact ⟨(x6_1), (wrap64 (x7_1 + ((rd_T36 l0_3 x8_1).f1))), (wrap64 (x8_1 + 1)), zG87, zG87, H', ⟨zH94⟩, ⟨zH9⟩, ⟨zH5⟩, ⟨zH6⟩, ⟨zH26⟩⟩
   rw [if_neg c10] at H
   have c10b0 : (((rd_T36 l0_3 x8_1).f0) == a1) = false := beq_eq_false_iff_ne.mpr c10
   have c10b1 : (((rd_T36 l0_3 x8_1).f0) != a1) = true := bne_iff_ne.mpr c10
   by_cases c17 : a1 = 0
   rotate_left
   ·rw [if_neg c17] at H
    have c17b0 : (a1 == 0) = false := beq_eq_false_iff_ne.mpr c17
    have c17b1 : (a1 != 0) = true := bne_iff_ne.mpr c17
    by_cases c35 : x6_1.length < 5864062014805
    rotate_left
    ·rw [if_neg c35] at H
     exact absurd H (by simp)
    rw [if_pos c35] at H
    have LMc35 := za c35
    clear c35
    obtain ⟨y137, hy137⟩ : ∃ y_ : List (S36), y_ = (x6_1 ++ [(⟨(rd_T36 l0_3 x8_1).f0, (rd_T36 l0_3 x8_1).f1, (rd_T36 l0_3 x8_1).f2⟩ : S36)]) := ⟨_, rfl⟩
    replace H : (spec_l23End.l0 k1 a1 y137 x7_1 (wrap64 (x8_1 + 1)) a0_0 a0_1 a0_2 l0_3) = some (r1, r2, r3, r4, r5) := by first | (rw [hy137]; with_reducible exact H) | (have H2_ := (Option.bind_some _ _).symm.trans H; rw [hy137]; with_reducible exact H2_) | (have H2_ := (Option.bind_some _ _).symm.trans H; with_reducible exact H2_) | with_reducible exact H | (rw [hy137]; exact H) | exact H
    have Ny137 := za hy137
    clear hy137
    have H' := za H
    clear H
    have hnb36 := NB127_128.out
    have hnc36 := NB128_127.out
    obtain ⟨hcz37_0, hcz37_1, hcz37_2, hcz37_3, hfz37_0, hfz37_1, hfz37_2, hfz37_3⟩ := zB4 BK127.out
    have p132 : 0 ≤ (x8_1 : Int) := zO
    have q132 : x8_1 < (l0_3.length : Int) := zO
    obtain ⟨ad132, e132, hx132_0, hx132_1, hx132_2⟩ := at_T36 HR0_3.out x8_1 p132 q132
    cases e132
    replace hx132_0 := (HB.out.cell (zj w _ hx132_0)).trans hx132_0
    replace hx132_1 := (HB.out.cell (zj w _ hx132_1)).trans hx132_1
    replace hx132_2 := (HB.out.cell (zj w _ hx132_2)).trans hx132_2
    replace p132 := eq_true p132
    replace q132 := eq_true q132
    go_wp2_with (first | ((with_reducible refine gate_dst (N := 9) rfl ?_); refine box_event ?hg (N := 9) ?hd (cs := #[.int .i64 0, .int .i64 0, .int .i64 0]) (t := 36) ?hr ?_; (case hd => rfl); (case hg => rfl); (case hr => exact zH89); intro gb133 hg w38 hbox hb; have n_ := zA_ (za (zp (zbb zG86 gb133 (Nat.le_of_eq hg.symm)) hb)) (zA_ (za (zq (g := gb127) (o := .cells #[.int .i64 a0_0, .int .i64 a0_1, .int .i64 a0_2, .slice (some ad132) l0_3.length c0_3] 30 (0, 0)) zG77 hb)) (zA_ (za (zq (g := gb128) (o := .cells #[.int .i64 0, .int .i64 0, .int .i64 0, .slice none 0 0] 30 (0, 0)) zG78 hb)) (zA_ (za (zt zG62 hb)) (zA_ (za (hbox)) (zA_ (zN1 w.heap.size hg (zs zG62)) (zA_ (zN1 w.heap.size hg (zs zG62)) (zN3 hg (zx (g := gb127) (o := .cells #[.int .i64 a0_0, .int .i64 a0_1, .int .i64 a0_2, .slice (some ad132) l0_3.length c0_3] 30 (0, 0)) zG77) (zN2 hg (zx (g := gb128) (o := .cells #[.int .i64 0, .int .i64 0, .int .i64 0, .slice none 0 0] 30 (0, 0)) zG78))))))))); clear HO_6 BK127 BK128 HB; obtain ⟨HO_6, BK127, BK128, HB, BK133, GW133, GE133, NB127_133, NB133_127, NB128_133, NB133_128⟩ := n_; clear hb hbox hg; have hnb39 := NB133_127.out; have hnc39 := NB127_133.out; have hnb40 := NB133_128.out; have hnc40 := NB128_133.out; obtain ⟨hcz41_0, hcz41_1, hcz41_2, hfz41_0, hfz41_1, hfz41_2⟩ := zB3 BK133.out) | ((with_reducible refine gate_builtin (b := .append) (xs := #[.tmp 46, .tmp 48]) rfl ?_); at_builtin; refine zbd k36 (w0 := w) w.heap.size rfl (.tmp 46) (.tmp 48) 28 36 (.agg #[(.int .i64 0), (.int .i64 0), (.int .i64 0)]) 24 rfl Try.underlying28 info36 rfl zG89 (by omega) u6 x6_1 (⟨(rd_T36 l0_3 x8_1).f0, (rd_T36 l0_3 x8_1).f1, (rd_T36 l0_3 x8_1).f2⟩ : S36) [.int .i64 ((rd_T36 l0_3 x8_1).f0), .int .i64 ((rd_T36 l0_3 x8_1).f1), .int .i64 ((rd_T36 l0_3 x8_1).f2)] (fun k_ => k_ ≠ gb133) (fun _ => False) rfl zK178 ?aP (fun _ hk => hk.elim) ?aF ?aO ?aB ?aS ?aL ?_; (case aP => exact zH77); (case aB => exact zH25); (case aF => exact zH2); (case aO => exact zH8); (case aS => exact zH23); (case aL => have := LMc35.out; omega); intro v138 w42 ho hb hg hat; rw [← Ny137.out] at ho; have n_ := zA_ (za (zaf (g := gb127) (o := .cells #[.int .i64 a0_0, .int .i64 a0_1, .int .i64 a0_2, .slice (some ad132) l0_3.length c0_3] 30 (0, 0)) zK108 hg (zac HO_6.out BK127.out zG89))) (zA_ (za (zaf (g := gb128) (o := .cells #[.int .i64 0, .int .i64 0, .int .i64 0, .slice none 0 0] 30 (0, 0)) zK109 hg (zac HO_6.out BK128.out zG89))) (zA_ (za (zaf (g := gb133) (o := .cells #[.int .i64 ((rd_T36 l0_3 x8_1).f0), .int .i64 ((rd_T36 l0_3 x8_1).f1), .int .i64 ((rd_T36 l0_3 x8_1).f2)] 36 (0, 0)) zK100 hg (Kd.R_away HO_6.out (fun _ hk => hk.2)))) (zA_ (za (hb)) (za (ho))))); clear BK127 BK128 BK133 HB HO_6; obtain ⟨BK127, BK128, BK133, HB, HO139⟩ := n_; clear ho hb hg hat))
    go_roundg k1
    case measure => have := HK1.out; omega
    case rel => exact ⟨(y137), (x7_1), (wrap64 (x8_1 + 1)), zG87, zG87, H', ⟨zH94⟩, ⟨by (with_reducible repeat (first | apply zm | apply zl | apply zn)); exact zr HO139.out (fun _ hk => trivial)⟩, ⟨zH69⟩, ⟨zH70⟩, ⟨zH26⟩⟩
   rw [if_pos c17] at H
   have c17b0 : (a1 == 0) = true := beq_iff_eq.mpr c17
   have c17b1 : (a1 != 0) = false := bne_eq_false_iff_eq.mpr c17
   clear c17
   by_cases c18 : ((rd_T36 l0_3 x8_1).f2) ≤ a0_0
   ·rw [if_pos c18] at H
    have c18b0 := decide_eq_true c18
    clear c18
    have H' := za H
    clear H
    have hnb19 := NB127_128.out
    have hnc19 := NB128_127.out
    obtain ⟨hcz20_0, hcz20_1, hcz20_2, hcz20_3, hfz20_0, hfz20_1, hfz20_2, hfz20_3⟩ := zB4 BK127.out
    have p132 : 0 ≤ (x8_1 : Int) := zO
    have q132 : x8_1 < (l0_3.length : Int) := zO
    obtain ⟨ad132, e132, hx132_0, hx132_1, hx132_2⟩ := at_T36 HR0_3.out x8_1 p132 q132
    cases e132
    replace hx132_0 := (HB.out.cell (zj w _ hx132_0)).trans hx132_0
    replace hx132_1 := (HB.out.cell (zj w _ hx132_1)).trans hx132_1
    replace hx132_2 := (HB.out.cell (zj w _ hx132_2)).trans hx132_2
    replace p132 := eq_true p132
    replace q132 := eq_true q132
    go_wp2_with (first | ((with_reducible refine gate_dst (N := 9) rfl ?_); refine box_event ?hg (N := 9) ?hd (cs := #[.int .i64 0, .int .i64 0, .int .i64 0]) (t := 36) ?hr ?_; (case hd => rfl); (case hg => rfl); (case hr => exact zH89); intro gb133 hg w21 hbox hb; have n_ := zA_ (za (zp (zbb zG86 gb133 (Nat.le_of_eq hg.symm)) hb)) (zA_ (za (zq (g := gb127) (o := .cells #[.int .i64 a0_0, .int .i64 a0_1, .int .i64 a0_2, .slice (some ad132) l0_3.length c0_3] 30 (0, 0)) zG77 hb)) (zA_ (za (zq (g := gb128) (o := .cells #[.int .i64 0, .int .i64 0, .int .i64 0, .slice none 0 0] 30 (0, 0)) zG78 hb)) (zA_ (za (zt zG62 hb)) (zA_ (za (hbox)) (zA_ (zN1 w.heap.size hg (zs zG62)) (zA_ (zN1 w.heap.size hg (zs zG62)) (zN3 hg (zx (g := gb127) (o := .cells #[.int .i64 a0_0, .int .i64 a0_1, .int .i64 a0_2, .slice (some ad132) l0_3.length c0_3] 30 (0, 0)) zG77) (zN2 hg (zx (g := gb128) (o := .cells #[.int .i64 0, .int .i64 0, .int .i64 0, .slice none 0 0] 30 (0, 0)) zG78))))))))); clear HO_6 BK127 BK128 HB; obtain ⟨HO_6, BK127, BK128, HB, BK133, GW133, GE133, NB127_133, NB133_127, NB128_133, NB133_128⟩ := n_; clear hb hbox hg; have hnb22 := NB133_127.out; have hnc22 := NB127_133.out; have hnb23 := NB133_128.out; have hnc23 := NB128_133.out; obtain ⟨hcz24_0, hcz24_1, hcz24_2, hfz24_0, hfz24_1, hfz24_2⟩ := zB3 BK133.out; obtain ⟨hcz25_0, hcz25_1, hcz25_2, hcz25_3, hfz25_0, hfz25_1, hfz25_2, hfz25_3⟩ := zB4 BK127.out))
    go_roundg k1
    case measure => have := HK1.out; omega
    case rel => exact ⟨(x6_1), (wrap64 (x7_1 + ((rd_T36 l0_3 x8_1).f1))), (wrap64 (x8_1 + 1)), zG87, zG87, H', ⟨zH94⟩, ⟨zH9⟩, ⟨zH5⟩, ⟨zH6⟩, ⟨zH26⟩⟩
   rw [if_neg c18] at H
   have c18b0 := decide_eq_false c18
   clear c18
   by_cases c26 : x6_1.length < 5864062014805
   rotate_left
   ·rw [if_neg c26] at H
    exact absurd H (by simp)
   rw [if_pos c26] at H
   have LMc26 := za c26
   clear c26
   obtain ⟨y134, hy134⟩ : ∃ y_ : List (S36), y_ = (x6_1 ++ [(⟨(rd_T36 l0_3 x8_1).f0, (rd_T36 l0_3 x8_1).f1, (rd_T36 l0_3 x8_1).f2⟩ : S36)]) := ⟨_, rfl⟩
   replace H : (spec_l23End.l0 k1 a1 y134 x7_1 (wrap64 (x8_1 + 1)) a0_0 a0_1 a0_2 l0_3) = some (r1, r2, r3, r4, r5) := by first | (rw [hy134]; with_reducible exact H) | (have H2_ := (Option.bind_some _ _).symm.trans H; rw [hy134]; with_reducible exact H2_) | (have H2_ := (Option.bind_some _ _).symm.trans H; with_reducible exact H2_) | with_reducible exact H | (rw [hy134]; exact H) | exact H
   have Ny134 := za hy134
   clear hy134
   have H' := za H
   clear H
   have hnb27 := NB127_128.out
   have hnc27 := NB128_127.out
   obtain ⟨hcz28_0, hcz28_1, hcz28_2, hcz28_3, hfz28_0, hfz28_1, hfz28_2, hfz28_3⟩ := zB4 BK127.out
   have p132 : 0 ≤ (x8_1 : Int) := zO
   have q132 : x8_1 < (l0_3.length : Int) := zO
   obtain ⟨ad132, e132, hx132_0, hx132_1, hx132_2⟩ := at_T36 HR0_3.out x8_1 p132 q132
   cases e132
   replace hx132_0 := (HB.out.cell (zj w _ hx132_0)).trans hx132_0
   replace hx132_1 := (HB.out.cell (zj w _ hx132_1)).trans hx132_1
   replace hx132_2 := (HB.out.cell (zj w _ hx132_2)).trans hx132_2
   replace p132 := eq_true p132
   replace q132 := eq_true q132
   go_wp2_with (first | ((with_reducible refine gate_dst (N := 9) rfl ?_); refine box_event ?hg (N := 9) ?hd (cs := #[.int .i64 0, .int .i64 0, .int .i64 0]) (t := 36) ?hr ?_; (case hd => rfl); (case hg => rfl); (case hr => exact zH89); intro gb133 hg w29 hbox hb; have n_ := zA_ (za (zp (zbb zG86 gb133 (Nat.le_of_eq hg.symm)) hb)) (zA_ (za (zq (g := gb127) (o := .cells #[.int .i64 a0_0, .int .i64 a0_1, .int .i64 a0_2, .slice (some ad132) l0_3.length c0_3] 30 (0, 0)) zG77 hb)) (zA_ (za (zq (g := gb128) (o := .cells #[.int .i64 0, .int .i64 0, .int .i64 0, .slice none 0 0] 30 (0, 0)) zG78 hb)) (zA_ (za (zt zG62 hb)) (zA_ (za (hbox)) (zA_ (zN1 w.heap.size hg (zs zG62)) (zA_ (zN1 w.heap.size hg (zs zG62)) (zN3 hg (zx (g := gb127) (o := .cells #[.int .i64 a0_0, .int .i64 a0_1, .int .i64 a0_2, .slice (some ad132) l0_3.length c0_3] 30 (0, 0)) zG77) (zN2 hg (zx (g := gb128) (o := .cells #[.int .i64 0, .int .i64 0, .int .i64 0, .slice none 0 0] 30 (0, 0)) zG78))))))))); clear HO_6 BK127 BK128 HB; obtain ⟨HO_6, BK127, BK128, HB, BK133, GW133, GE133, NB127_133, NB133_127, NB128_133, NB133_128⟩ := n_; clear hb hbox hg; have hnb30 := NB133_127.out; have hnc30 := NB127_133.out; have hnb31 := NB133_128.out; have hnc31 := NB128_133.out; obtain ⟨hcz32_0, hcz32_1, hcz32_2, hfz32_0, hfz32_1, hfz32_2⟩ := zB3 BK133.out; obtain ⟨hcz33_0, hcz33_1, hcz33_2, hcz33_3, hfz33_0, hfz33_1, hfz33_2, hfz33_3⟩ := zB4 BK127.out) | ((with_reducible refine gate_builtin (b := .append) (xs := #[.tmp 46, .tmp 48]) rfl ?_); at_builtin; refine zbd k36 (w0 := w) w.heap.size rfl (.tmp 46) (.tmp 48) 28 36 (.agg #[(.int .i64 0), (.int .i64 0), (.int .i64 0)]) 24 rfl Try.underlying28 info36 rfl zG89 (by omega) u6 x6_1 (⟨(rd_T36 l0_3 x8_1).f0, (rd_T36 l0_3 x8_1).f1, (rd_T36 l0_3 x8_1).f2⟩ : S36) [.int .i64 ((rd_T36 l0_3 x8_1).f0), .int .i64 ((rd_T36 l0_3 x8_1).f1), .int .i64 ((rd_T36 l0_3 x8_1).f2)] (fun k_ => k_ ≠ gb133) (fun _ => False) rfl zK178 ?aP (fun _ hk => hk.elim) ?aF ?aO ?aB ?aS ?aL ?_; (case aP => exact zH77); (case aB => exact zH25); (case aF => exact zH2); (case aO => exact zH8); (case aS => exact zH23); (case aL => have := LMc26.out; omega); intro v135 w34 ho hb hg hat; rw [← Ny134.out] at ho; have n_ := zA_ (za (zaf (g := gb127) (o := .cells #[.int .i64 a0_0, .int .i64 a0_1, .int .i64 a0_2, .slice (some ad132) l0_3.length c0_3] 30 (0, 0)) zK108 hg (zac HO_6.out BK127.out zG89))) (zA_ (za (zaf (g := gb128) (o := .cells #[.int .i64 0, .int .i64 0, .int .i64 0, .slice none 0 0] 30 (0, 0)) zK109 hg (zac HO_6.out BK128.out zG89))) (zA_ (za (zaf (g := gb133) (o := .cells #[.int .i64 ((rd_T36 l0_3 x8_1).f0), .int .i64 ((rd_T36 l0_3 x8_1).f1), .int .i64 ((rd_T36 l0_3 x8_1).f2)] 36 (0, 0)) zK100 hg (Kd.R_away HO_6.out (fun _ hk => hk.2)))) (zA_ (za (hb)) (za (ho))))); clear BK127 BK128 BK133 HB HO_6; obtain ⟨BK127, BK128, BK133, HB, HO136⟩ := n_; clear ho hb hg hat))
   go_roundg k1
   case measure => have := HK1.out; omega
   case rel => exact ⟨(y134), (x7_1), (wrap64 (x8_1 + 1)), zG87, zG87, H', ⟨zH94⟩, ⟨by (with_reducible repeat (first | apply zm | apply zl | apply zn)); exact zr HO136.out (fun _ hk => trivial)⟩, ⟨zH69⟩, ⟨zH70⟩, ⟨zH26⟩⟩
end Go.Proofs.Ytdohpbhljifodaa.C
