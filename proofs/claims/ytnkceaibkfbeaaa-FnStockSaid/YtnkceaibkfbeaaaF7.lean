-- squeezed
-- made by pp.py (wip/tools) out of the translation; Lean checks it
import Derived.Test.YtnkceaibkfbeaaaF0
import Derived.Test.YtnkceaibkfbeaaaF3
import Derived.Test.YtnkceaibkfbeaaaF6
namespace Go.Proofs.Ytnkceaibkfbeaaa.F
open Go.RowKit Go.Proofs.YtnkceaibkfbeaaaW.PrintWords Go.Proofs.YtnkceaibkfbeaaaW.PrintLast Go.Proofs.YtnkceaibkfbeaaaW.PrintMore
attribute [local go_sem] max2_int min2_int max_two min_two max_three min_three max_four min_four   -- for this text's walks alone
set_option linter.unusedVariables false
set_option linter.unusedSimpArgs false

abbrev q7a := @blk_cell
/-! ### impl_StockRun: function 7 -/
def impl_StockRun.l0 : Nat → List (S36) → List (S34) → Int → Int → Int → Int → Int → Int → Int → List (S38) → Option ((List (S36)) × Int × Int × Int × Int × Int × (List (S38)) × Int)
 | 0, _, _, _, _, _, _, _, _, _, _ => none
 | k + 1, x6, x21, x22, x23, x255000, x255001, x255002, x255003, x255004, x255005 => if x23 < x22 then (if 0 ≤ x23 then (if x23 < (x21.length : Int) then ((impl_Stock_do.f k x255000 x255001 x255002 x255003 x255004 x255005 ((rd_T34 x21 x23).f0) ((rd_T34 x21 x23).f1) ((rd_T34 x21 x23).f2) ((rd_T34 x21 x23).f3) ((rd_T34 x21 x23).f4)).bind fun bt257 => (if x6.length < 8796093022208 then (impl_StockRun.l0 k (x6 ++ [(⟨bt257.1, bt257.2.1⟩ : S36)]) x21 x22 (wrap64 (x23 + 1)) bt257.2.2.1 bt257.2.2.2.1 bt257.2.2.2.2.1 bt257.2.2.2.2.2.1 bt257.2.2.2.2.2.2.1 bt257.2.2.2.2.2.2.2) else (none))) else (none)) else (none)) else (some (x6, x255000, x255001, x255002, x255003, x255004, x255005, 0))
def impl_StockRun.f (k : Nat) (l0 : List (S34)) : Option ((List (S36)) × Int × Int × Int × Int × Int × (List (S38)) × Int) := (impl_StockAct.f l0).bind fun t250 => (if t250 = true then (if (l0.length : Int) > 200 then (some (([] : List (S36)), 0, 0, 0, 0, 0, ([] : List (S38)), 9)) else (impl_StockRun.l0 k (([] : List (S36))) l0 (l0.length : Int) 0 0 0 0 0 0 ([] : List (S38)))) else (some (([] : List (S36)), 0, 0, 0, 0, 0, ([] : List (S38)), 2)))
theorem impl_StockRun.mono_l : ∀ k, (∀ y0 y1 y2 y3 y4 y5 y6 y7 y8 y9, LeO (impl_StockRun.l0 k y0 y1 y2 y3 y4 y5 y6 y7 y8 y9) (impl_StockRun.l0 (k + 1) y0 y1 y2 y3 y4 y5 y6 y7 y8 y9))
 | 0 => fun _ _ _ _ _ _ _ _ _ _ r h => by simp [impl_StockRun.l0] at h
 | k + 1 => by
  have ih0 := impl_StockRun.mono_l k
  ·intro y0 y1 y2 y3 y4 y5 y6 y7 y8 y9
   unfold impl_StockRun.l0
   repeat' first
   | (with_reducible exact ih0 _ _ _ _ _ _ _ _ _ _)
   | (with_reducible exact impl_Stock_do.mono _ _ _ _ _ _ _ _ _ _ _ _)
   | (with_reducible exact LeO.refl _)
   | (with_reducible exact LeO.none _)
   | (with_reducible refine LeO.ite ?_ ?_)
   | (with_reducible refine LeO.bind ?_ (fun _ => ?_))
   | exact ih0 _ _ _ _ _ _ _ _ _ _
   | exact impl_Stock_do.mono _ _ _ _ _ _ _ _ _ _ _ _
   | exact LeO.none _
   | refine LeO.ite ?_ ?_
   | refine LeO.bind ?_ (fun _ => ?_)
theorem impl_StockRun.mono : ∀ a0 k, LeO (impl_StockRun.f k a0) (impl_StockRun.f (k + 1) a0) := by
 intro a0 k
 have ih0 := impl_StockRun.mono_l k
 unfold impl_StockRun.f
 repeat' first
   | (with_reducible exact ih0 _ _ _ _ _ _ _ _ _ _)
   | (with_reducible exact impl_Stock_do.mono _ _ _ _ _ _ _ _ _ _ _ _)
   | (with_reducible exact LeO.refl _)
   | (with_reducible exact LeO.none _)
   | (with_reducible refine LeO.ite ?_ ?_)
   | (with_reducible refine LeO.bind ?_ (fun _ => ?_))
   | exact ih0 _ _ _ _ _ _ _ _ _ _
   | exact impl_Stock_do.mono _ _ _ _ _ _ _ _ _ _ _ _
   | exact LeO.none _
   | refine LeO.ite ?_ ?_
   | refine LeO.bind ?_ (fun _ => ?_)
set_option maxHeartbeats 64000000 in
set_option maxRecDepth 100000 in
theorem impl_StockRun.calls (k : Nat) (A0 : Option Addr) (c0 : Nat) (l0 : List (S34)) (r1 : List (S36)) (r2 : Int) (r3 : Int) (r4 : Int) (r5 : Int) (r6 : Int) (r7 : List (S38)) (r8 : Int) (w : World) (hr0 : Kd.C k34 w A0 l0.length l0) (hc0 : l0.length ≤ c0) (h : impl_StockRun.f k l0 = some (r1, r2, r3, r4, r5, r6, r7, r8)) :
  Calls Try.prog 7 #[.slice A0 l0.length c0] w fun e w' => ∃ v0_ v6_ : Value, e = .returned (.tuple #[v0_, .agg (zs6 r2 r3 r4 r5 r6 v6_), .int .i64 r8]) ∧ Kd.R k36 36 w' w.heap.size (fun _ => True) v0_ r1 ∧ Kd.R k38 38 w' w.heap.size (fun _ => True) v6_ r7 ∧ Below w.heap.size w w' := by
 have hu29 := Try.underlying29
 have hu34 := Try.underlying34
 obtain ⟨HR0, HC0, HB⟩ := zD3 hr0 hc0 (Below.refl w.heap.size w)
 clear hr0 hc0
 have H : ((impl_StockAct.f l0).bind fun t250 => (if t250 = true then (if (l0.length : Int) > 200 then (some (([] : List (S36)), 0, 0, 0, 0, 0, ([] : List (S38)), 9)) else (impl_StockRun.l0 k (([] : List (S36))) l0 (l0.length : Int) 0 0 0 0 0 0 ([] : List (S38)))) else (some (([] : List (S36)), 0, 0, 0, 0, 0, ([] : List (S38)), 2)))) = some (r1, r2, r3, r4, r5, r6, r7, r8) := h
 clear h
 replace H := Option.bind_eq_some_iff.mp H
 obtain ⟨t250, A20, H⟩ := H
 replace H : (if t250 = true then (if (l0.length : Int) > 200 then (some (([] : List (S36)), 0, 0, 0, 0, 0, ([] : List (S38)), 9)) else (impl_StockRun.l0 k (([] : List (S36))) l0 (l0.length : Int) 0 0 0 0 0 0 ([] : List (S38)))) else (some (([] : List (S36)), 0, 0, 0, 0, 0, ([] : List (S38)), 2))) = some (r1, r2, r3, r4, r5, r6, r7, r8) := H
 have A2 := za A20
 clear A20
 by_cases c3 : t250 = true
 rotate_left
 ·replace c3 := Bool.eq_false_iff.mpr c3
  subst c3
  have H1 : (some (([] : List (S36)), 0, 0, 0, 0, 0, ([] : List (S38)), 2)) = some (r1, r2, r3, r4, r5, r6, r7, r8) := by rw [if_neg (show ¬ (false = true) by decide)] at H; exact H
  clear H
  have H := H1
  clear H1
  simp only [Option.some.injEq, Prod.mk.injEq] at H
  obtain ⟨rfl, rfl, rfl, rfl, rfl, rfl, rfl, rfl⟩ := H
  go_enter Try.func7, Try.ntmps7
  go_wp2_with (first | ((with_reducible refine gate_dst (N := 3) rfl ?_); refine box_event ?hg (N := 3) ?hd (cs := (zs6 0 0 0 0 0 (.slice none 0 0))) (t := 29) ?hr ?_; (case hd => rfl); (case hg => rfl); (case hr => exact zH81); intro gb249 hg w37 hbox hb; have n_ := zA_ (za (zu zG58 hb)) (zA_ (za (hbox)) (zA_ (zN1 w.heap.size hg (zv zG58)) (zN1 w.heap.size hg (zv zG58)))); clear HB; obtain ⟨HB, BK249, GW249, GE249⟩ := n_; clear hb hbox hg) | ((with_reducible refine gate_callee (f := 23) rfl ?_); refine goesL_ (some 11) rfl rfl Try.func23 zG69 rfl #[.slice A0 l0.length c0] rfl zG56 ?_; (with_reducible refine (impl_StockAct.calls _ _ l0 false _ ?side1 ?side2 A2.out).mono ?_); (case side1 => exact zH41); (case side2 => exact HC0.out); rintro e w' ⟨rfl, ⟨nd, rfl⟩⟩; refine ⟨_, rfl, ?_⟩; (try (rw [drewN_self w37]; generalize hq_ : World.drewN w37 _ = w37; have n0_ : Aside0 (w37.heap[gb249]? = some (.cells (zs6 0 0 0 0 0 (.slice none 0 0)) 29 (0, 0))) := ⟨zH50⟩; have n1_ : Aside0 (Below w.heap.size w w37) := ⟨zH39⟩; clear BK249 HB hq_; have BK249 := n0_; have HB := n1_; clear n0_ n1_)); (try have hcu38_0 : w37.cell? ⟨gb249, 0, none⟩ = some (.int .i64 0) := (q7a BK249.out 0).trans rfl); (try have hcu38_1 : w37.cell? ⟨gb249, 1, none⟩ = some (.int .i64 0) := (q7a BK249.out 1).trans rfl); (try have hcu38_2 : w37.cell? ⟨gb249, 2, none⟩ = some (.int .i64 0) := (q7a BK249.out 2).trans rfl); (try have hcu38_3 : w37.cell? ⟨gb249, 3, none⟩ = some (.int .i64 0) := (q7a BK249.out 3).trans rfl); (try have hcu38_4 : w37.cell? ⟨gb249, 4, none⟩ = some (.int .i64 0) := (q7a BK249.out 4).trans rfl); (try have hcu38_5 : w37.cell? ⟨gb249, 5, none⟩ = some (.slice none 0 0) := (q7a BK249.out 5).trans rfl); (try have hfcu38_0 := zd BK249.out 0); (try have hfcu38_1 := zd BK249.out 1); (try have hfcu38_2 := zd BK249.out 2); (try have hfcu38_3 := zd BK249.out 3); (try have hfcu38_4 := zd BK249.out 4); (try have hfcu38_5 := zd BK249.out 5); have hcz39_0 : w37.cell? ⟨gb249, 0, none⟩ = some (.int .i64 0) := (q7a BK249.out 0).trans rfl; have hcz39_1 : w37.cell? ⟨gb249, 1, none⟩ = some (.int .i64 0) := (q7a BK249.out 1).trans rfl; have hcz39_2 : w37.cell? ⟨gb249, 2, none⟩ = some (.int .i64 0) := (q7a BK249.out 2).trans rfl; have hcz39_3 : w37.cell? ⟨gb249, 3, none⟩ = some (.int .i64 0) := (q7a BK249.out 3).trans rfl; have hcz39_4 : w37.cell? ⟨gb249, 4, none⟩ = some (.int .i64 0) := (q7a BK249.out 4).trans rfl; have hcz39_5 : w37.cell? ⟨gb249, 5, none⟩ = some (.slice none 0 0) := (q7a BK249.out 5).trans rfl; have hfz39_0 := zd BK249.out 0; have hfz39_1 := zd BK249.out 1; have hfz39_2 := zd BK249.out 2; have hfz39_3 := zd BK249.out 3; have hfz39_4 := zd BK249.out 4; have hfz39_5 := zd BK249.out 5))
  refine bodyPost_ret (results_list (rs := [.tmp 2, .cell 3 29, .tmp 4]) rfl (by simp) (.tmp (.cell gb249 29 (zs6 0 0 0 0 0 (.slice none 0 0)) (0, 0) _ rfl zK86 Try.underlying29 rfl zG69 (.tmp .nil)))) rfl ?_
  exact zH13

 subst c3
 have H1 : (if (l0.length : Int) > 200 then (some (([] : List (S36)), 0, 0, 0, 0, 0, ([] : List (S38)), 9)) else (impl_StockRun.l0 k (([] : List (S36))) l0 (l0.length : Int) 0 0 0 0 0 0 ([] : List (S38)))) = some (r1, r2, r3, r4, r5, r6, r7, r8) := by rw [if_pos rfl] at H; exact H
 clear H
 have H := H1
 clear H1
 by_cases c4 : (l0.length : Int) > 200
 ·rw [if_pos c4] at H
  have c4b0 : decide (200 < (l0.length : Int)) = true := decide_eq_true c4
  have c4b1 : decide (200 < l0.length) = true := decide_eq_true (by omega)
  clear c4
  simp only [Option.some.injEq, Prod.mk.injEq] at H
  obtain ⟨rfl, rfl, rfl, rfl, rfl, rfl, rfl, rfl⟩ := H
  go_enter Try.func7, Try.ntmps7
  go_wp2_with (first | ((with_reducible refine gate_dst (N := 3) rfl ?_); refine box_event ?hg (N := 3) ?hd (cs := (zs6 0 0 0 0 0 (.slice none 0 0))) (t := 29) ?hr ?_; (case hd => rfl); (case hg => rfl); (case hr => exact zH81); intro gb249 hg w5 hbox hb; have n_ := zA_ (za (zu zG58 hb)) (zA_ (za (hbox)) (zA_ (zN1 w.heap.size hg (zv zG58)) (zN1 w.heap.size hg (zv zG58)))); clear HB; obtain ⟨HB, BK249, GW249, GE249⟩ := n_; clear hb hbox hg) | ((with_reducible refine gate_callee (f := 23) rfl ?_); refine goesL_ (some 11) rfl rfl Try.func23 zG69 rfl #[.slice A0 l0.length c0] rfl zG56 ?_; (with_reducible refine (impl_StockAct.calls _ _ l0 true _ ?side1 ?side2 A2.out).mono ?_); (case side1 => exact zH41); (case side2 => exact HC0.out); rintro e w' ⟨rfl, ⟨nd, rfl⟩⟩; refine ⟨_, rfl, ?_⟩; (try (rw [drewN_self w5]; generalize hq_ : World.drewN w5 _ = w5; have n0_ : Aside0 (w5.heap[gb249]? = some (.cells (zs6 0 0 0 0 0 (.slice none 0 0)) 29 (0, 0))) := ⟨zH50⟩; have n1_ : Aside0 (Below w.heap.size w w5) := ⟨zH39⟩; clear BK249 HB hq_; have BK249 := n0_; have HB := n1_; clear n0_ n1_)); (try have hcu6_0 : w5.cell? ⟨gb249, 0, none⟩ = some (.int .i64 0) := (q7a BK249.out 0).trans rfl); (try have hcu6_1 : w5.cell? ⟨gb249, 1, none⟩ = some (.int .i64 0) := (q7a BK249.out 1).trans rfl); (try have hcu6_2 : w5.cell? ⟨gb249, 2, none⟩ = some (.int .i64 0) := (q7a BK249.out 2).trans rfl); (try have hcu6_3 : w5.cell? ⟨gb249, 3, none⟩ = some (.int .i64 0) := (q7a BK249.out 3).trans rfl); (try have hcu6_4 : w5.cell? ⟨gb249, 4, none⟩ = some (.int .i64 0) := (q7a BK249.out 4).trans rfl); (try have hcu6_5 : w5.cell? ⟨gb249, 5, none⟩ = some (.slice none 0 0) := (q7a BK249.out 5).trans rfl); (try have hfcu6_0 := zd BK249.out 0); (try have hfcu6_1 := zd BK249.out 1); (try have hfcu6_2 := zd BK249.out 2); (try have hfcu6_3 := zd BK249.out 3); (try have hfcu6_4 := zd BK249.out 4); (try have hfcu6_5 := zd BK249.out 5); have hcz7_0 : w5.cell? ⟨gb249, 0, none⟩ = some (.int .i64 0) := (q7a BK249.out 0).trans rfl; have hcz7_1 : w5.cell? ⟨gb249, 1, none⟩ = some (.int .i64 0) := (q7a BK249.out 1).trans rfl; have hcz7_2 : w5.cell? ⟨gb249, 2, none⟩ = some (.int .i64 0) := (q7a BK249.out 2).trans rfl; have hcz7_3 : w5.cell? ⟨gb249, 3, none⟩ = some (.int .i64 0) := (q7a BK249.out 3).trans rfl; have hcz7_4 : w5.cell? ⟨gb249, 4, none⟩ = some (.int .i64 0) := (q7a BK249.out 4).trans rfl; have hcz7_5 : w5.cell? ⟨gb249, 5, none⟩ = some (.slice none 0 0) := (q7a BK249.out 5).trans rfl; have hfz7_0 := zd BK249.out 0; have hfz7_1 := zd BK249.out 1; have hfz7_2 := zd BK249.out 2; have hfz7_3 := zd BK249.out 3; have hfz7_4 := zd BK249.out 4; have hfz7_5 := zd BK249.out 5))
  refine bodyPost_ret (results_list (rs := [.tmp 2, .cell 3 29, .tmp 4]) rfl (by simp) (.tmp (.cell gb249 29 (zs6 0 0 0 0 0 (.slice none 0 0)) (0, 0) _ rfl zK86 Try.underlying29 rfl zG69 (.tmp .nil)))) rfl ?_
  exact zH13
 rw [if_neg c4] at H
 have c4b0 : decide (200 < (l0.length : Int)) = false := decide_eq_false c4
 have c4b1 : decide (200 < l0.length) = false := decide_eq_false (by omega)
 clear c4
 obtain ⟨y251, hy251⟩ : ∃ y_ : List (S36), y_ = (([] : List (S36))) := ⟨_, rfl⟩
 replace H : (impl_StockRun.l0 k y251 l0 (l0.length : Int) 0 0 0 0 0 0 ([] : List (S38))) = some (r1, r2, r3, r4, r5, r6, r7, r8) := by first | (rw [hy251]; with_reducible exact H) | (have H2_ := (Option.bind_some _ _).symm.trans H; rw [hy251]; with_reducible exact H2_) | (have H2_ := (Option.bind_some _ _).symm.trans H; with_reducible exact H2_) | with_reducible exact H | (rw [hy251]; exact H) | exact H
 have Ny251 := za hy251
 clear hy251
 have H' := za H
 clear H
 go_enter Try.func7, Try.ntmps7
 go_wp2_with (first | ((with_reducible refine gate_dst (N := 3) rfl ?_); refine box_event ?hg (N := 3) ?hd (cs := (zs6 0 0 0 0 0 (.slice none 0 0))) (t := 29) ?hr ?_; (case hd => rfl); (case hg => rfl); (case hr => exact zH81); intro gb249 hg w8 hbox hb; have n_ := zA_ (za (zu zG58 hb)) (zA_ (za (hbox)) (zA_ (zN1 w.heap.size hg (zv zG58)) (zN1 w.heap.size hg (zv zG58)))); clear HB; obtain ⟨HB, BK249, GW249, GE249⟩ := n_; clear hb hbox hg) | ((with_reducible refine gate_callee (f := 23) rfl ?_); refine goesL_ (some 11) rfl rfl Try.func23 zG69 rfl #[.slice A0 l0.length c0] rfl zG56 ?_; (with_reducible refine (impl_StockAct.calls _ _ l0 true _ ?side1 ?side2 A2.out).mono ?_); (case side1 => exact zH41); (case side2 => exact HC0.out); rintro e w' ⟨rfl, ⟨nd, rfl⟩⟩; refine ⟨_, rfl, ?_⟩; (try (rw [drewN_self w8]; generalize hq_ : World.drewN w8 _ = w8; have n0_ : Aside0 (w8.heap[gb249]? = some (.cells (zs6 0 0 0 0 0 (.slice none 0 0)) 29 (0, 0))) := ⟨zH50⟩; have n1_ : Aside0 (Below w.heap.size w w8) := ⟨zH39⟩; clear BK249 HB hq_; have BK249 := n0_; have HB := n1_; clear n0_ n1_)); (try have hcu9_0 : w8.cell? ⟨gb249, 0, none⟩ = some (.int .i64 0) := (q7a BK249.out 0).trans rfl); (try have hcu9_1 : w8.cell? ⟨gb249, 1, none⟩ = some (.int .i64 0) := (q7a BK249.out 1).trans rfl); (try have hcu9_2 : w8.cell? ⟨gb249, 2, none⟩ = some (.int .i64 0) := (q7a BK249.out 2).trans rfl); (try have hcu9_3 : w8.cell? ⟨gb249, 3, none⟩ = some (.int .i64 0) := (q7a BK249.out 3).trans rfl); (try have hcu9_4 : w8.cell? ⟨gb249, 4, none⟩ = some (.int .i64 0) := (q7a BK249.out 4).trans rfl); (try have hcu9_5 : w8.cell? ⟨gb249, 5, none⟩ = some (.slice none 0 0) := (q7a BK249.out 5).trans rfl); (try have hfcu9_0 := zd BK249.out 0); (try have hfcu9_1 := zd BK249.out 1); (try have hfcu9_2 := zd BK249.out 2); (try have hfcu9_3 := zd BK249.out 3); (try have hfcu9_4 := zd BK249.out 4); (try have hfcu9_5 := zd BK249.out 5)) | ((with_reducible refine gate_dst (N := 20) rfl ?_); refine Kd.R_lit k36 _ 36 ?hg (N := 20) ?hd (xs := ([] : List (S36))) (inner := []) (ok := fun _ => True) (okp := fun _ => True) ?hr ?hp (fun _ hk => hk) trivial (Below.refl _ _) (Nat.le_refl _) (by simp) ?_; (case hd => rfl); (case hg => rfl); (case hr => exact zH81); (case hp => exact (Reps.none _ _)); intro v252 w10 ho11 hb hg_ hnew_; clear hg_ hnew_; (first | rw [← Ny251.out] at ho11 | (simp only [Int.reduceToNat] at ho11; rw [← Ny251.out] at ho11)); have n_ := zA_ (za (zah ho11 (zv zK130))) (zA_ (za (zq (g := gb249) (o := .cells (zs6 0 0 0 0 0 (.slice none 0 0)) 29 (0, 0)) zK141 hb)) (za (zu zK130 hb))); clear BK249 HB; obtain ⟨HO253, BK249, HB⟩ := n_; clear hb ho11) | ((with_reducible refine gate_dst (N := 5) rfl ?_); refine box_event ?hg (N := 5) ?hd (cs := (zs6 0 0 0 0 0 (.slice none 0 0))) (t := 29) ?hr ?_; (case hd => rfl); (case hg => rfl); (case hr => exact zH81); intro gb254 hg w12 hbox hb; have n_ := zA_ (za (zt (by (with_reducible repeat (first | apply zj | apply zk | apply zl)); exact HO253.out) hb)) (zA_ (za (zq (g := gb249) (o := .cells (zs6 0 0 0 0 0 (.slice none 0 0)) 29 (0, 0)) zK141 hb)) (zA_ (za (zu zK130 hb)) (zA_ (za (hbox)) (zA_ (zN1 w.heap.size hg (zv zK130)) (zA_ (zN1 w.heap.size hg (zv zK130)) (zN2 hg (zx (g := gb249) (o := .cells (zs6 0 0 0 0 0 (.slice none 0 0)) 29 (0, 0)) zK141))))))); clear HO253 BK249 HB; obtain ⟨HO253, BK249, HB, BK254, GW254, GE254, NB249_254, NB254_249⟩ := n_; clear hb hbox hg; have hnb13 := NB254_249.out; have hnc13 := NB249_254.out; have hcz14_0 : w12.cell? ⟨gb254, 0, none⟩ = some (.int .i64 0) := (q7a BK254.out 0).trans rfl; have hcz14_1 : w12.cell? ⟨gb254, 1, none⟩ = some (.int .i64 0) := (q7a BK254.out 1).trans rfl; have hcz14_2 : w12.cell? ⟨gb254, 2, none⟩ = some (.int .i64 0) := (q7a BK254.out 2).trans rfl; have hcz14_3 : w12.cell? ⟨gb254, 3, none⟩ = some (.int .i64 0) := (q7a BK254.out 3).trans rfl; have hcz14_4 : w12.cell? ⟨gb254, 4, none⟩ = some (.int .i64 0) := (q7a BK254.out 4).trans rfl; have hcz14_5 : w12.cell? ⟨gb254, 5, none⟩ = some (.slice none 0 0) := (q7a BK254.out 5).trans rfl; have hfz14_0 := zd BK254.out 0; have hfz14_1 := zd BK254.out 1; have hfz14_2 := zd BK254.out 2; have hfz14_3 := zd BK254.out 3; have hfz14_4 := zd BK254.out 4; have hfz14_5 := zd BK254.out 5))
 go_loopg [6, 23] k (fun kq v6 v23 w' => ∃ (x6_1 : List (S36)) (x23_1 : Int) (x255000_1 : Int) (x255001_1 : Int) (x255002_1 : Int) (x255003_1 : Int) (x255004_1 : Int) (x255005_1 : List (S38)) (u255005 : Value), v23 = .int .i64 x23_1 ∧ Aside0 (impl_StockRun.l0 kq x6_1 l0 (l0.length : Int) x23_1 x255000_1 x255001_1 x255002_1 x255003_1 x255004_1 x255005_1 = some (r1, r2, r3, r4, r5, r6, r7, r8)) ∧ Aside0 (kq ≤ k) ∧ Aside0 (Kd.R k36 36 w' w.heap.size (fun _ => True) v6 x6_1) ∧ Aside0 (Kd.R k38 38 w' w.heap.size (fun _ => True) u255005 x255005_1) ∧ Aside0 (w'.heap[gb249]? = some (.cells (zs6 0 0 0 0 0 (.slice none 0 0)) 29 (0, 0))) ∧ Aside0 (w'.heap[gb254]? = some (.cells (zs6 x255000_1 x255001_1 x255002_1 x255003_1 x255004_1 u255005) 29 (0, 0))) ∧ Aside0 (Below w.heap.size w w'))
 case atStart => exact ⟨(y251), (0), (0), (0), (0), (0), (0), (([] : List (S38))), (.slice none 0 0), zG68, H', ⟨Nat.le_refl _⟩, ⟨by (with_reducible repeat (first | apply zj | apply zk | apply zl)); exact zn (zm (p := ⟨gb254, 5, none⟩) (zm (p := ⟨gb254, 4, none⟩) (zm (p := ⟨gb254, 3, none⟩) (zm (p := ⟨gb254, 2, none⟩) (zm (p := ⟨gb254, 1, none⟩) (zm (p := ⟨gb254, 0, none⟩) (zz HO253.out BK254.out zG70) (fun _ hk => hk.2) (.int .i64 0)) (fun _ hk => hk.2) (.int .i64 0)) (fun _ hk => hk.2) (.int .i64 0)) (fun _ hk => hk.2) (.int .i64 0)) (fun _ hk => hk.2) (.int .i64 0)) (fun _ hk => hk.2) (.slice none 0 0)) (fun _ hk => trivial)⟩, ⟨by first | exact Kd.R_nil _ _ _ _ _ | exact Kd.N_nil _ _ _ _ _ | exact Kd.V_nil _ _ _ _ _ | exact Kd.Q_nil _ _ _ _ _ | exact Kd.S_nil _ _ _ _ _⟩, ⟨by (with_reducible repeat (first | refine zc ?_ _ | refine ze ?_ | refine zb ?_ _)); refine zp ?_ NB249_254.out _; (with_reducible repeat (first | refine zc ?_ _ | refine ze ?_ | refine zb ?_ _)); refine zp ?_ NB249_254.out _; (with_reducible repeat (first | refine zc ?_ _ | refine ze ?_ | refine zb ?_ _)); refine zp ?_ NB249_254.out _; (with_reducible repeat (first | refine zc ?_ _ | refine ze ?_ | refine zb ?_ _)); refine zp ?_ NB249_254.out _; (with_reducible repeat (first | refine zc ?_ _ | refine ze ?_ | refine zb ?_ _)); refine zp ?_ NB249_254.out _; (with_reducible repeat (first | refine zc ?_ _ | refine ze ?_ | refine zb ?_ _)); refine zp ?_ NB249_254.out _; (with_reducible repeat (first | refine zc ?_ _ | refine ze ?_ | refine zb ?_ _)); exact BK249.out⟩, ⟨by (with_reducible repeat (first | refine zc ?_ _ | refine ze ?_ | refine zb ?_ _)); refine zr (cs := (zs6 0 0 0 0 0 (.slice none 0 0))) ?_ 5 _ rfl; (with_reducible repeat (first | refine zc ?_ _ | refine ze ?_ | refine zb ?_ _)); refine zr (cs := (zs6 0 0 0 0 0 (.slice none 0 0))) ?_ 4 _ rfl; (with_reducible repeat (first | refine zc ?_ _ | refine ze ?_ | refine zb ?_ _)); refine zr (cs := (zs6 0 0 0 0 0 (.slice none 0 0))) ?_ 3 _ rfl; (with_reducible repeat (first | refine zc ?_ _ | refine ze ?_ | refine zb ?_ _)); refine zr (cs := (zs6 0 0 0 0 0 (.slice none 0 0))) ?_ 2 _ rfl; (with_reducible repeat (first | refine zc ?_ _ | refine ze ?_ | refine zb ?_ _)); refine zr (cs := (zs6 0 0 0 0 0 (.slice none 0 0))) ?_ 1 _ rfl; (with_reducible repeat (first | refine zc ?_ _ | refine ze ?_ | refine zb ?_ _)); refine zr (cs := (zs6 0 0 0 0 0 (.slice none 0 0))) ?_ 0 _ rfl; (with_reducible repeat (first | refine zc ?_ _ | refine ze ?_ | refine zb ?_ _)); exact BK254.out⟩, ⟨zH36⟩⟩
 case round =>
  clear H'
  try clear c3
  try clear c4
  try clear c4b0
  try clear c4b1
  try clear hcz14_0
  try clear hcz14_1
  try clear hcz14_2
  try clear hcz14_3
  try clear hcz14_4
  try clear hcz14_5
  try clear hcz7_0
  try clear hcz7_1
  try clear hcz7_2
  try clear hcz7_3
  try clear hcz7_4
  try clear hcz7_5
  try clear hfz14_0
  try clear hfz14_1
  try clear hfz14_2
  try clear hfz14_3
  try clear hfz14_4
  try clear hfz14_5
  try clear hfz7_0
  try clear hfz7_1
  try clear hfz7_2
  try clear hfz7_3
  try clear hfz7_4
  try clear hfz7_5
  obtain ⟨x6_1, x23_1, x255000_1, x255001_1, x255002_1, x255003_1, x255004_1, x255005_1, u255005, rfl, HA, HK1, HO_6, HO_255005, BK249, BK254, HB⟩ := hrel
  cases gk with
  | zero => exact absurd HA.out (by simp [impl_StockRun.l0])
  | succ k1 =>
   have H := HA.out
   clear HA
   simp only [impl_StockRun.l0] at H
   by_cases c15 : x23_1 < (l0.length : Int)
   ·rw [if_pos c15] at H
    have c15b0 := decide_eq_true c15
    clear c15
    by_cases c16 : 0 ≤ x23_1
    rotate_left
    ·rw [if_neg c16] at H
     exact absurd H (by simp)
    rw [if_pos c16] at H
    have c16b0 := decide_eq_true c16
    clear c16
    by_cases c17 : x23_1 < (l0.length : Int)
    rotate_left
    ·rw [if_neg c17] at H
     exact absurd H (by simp)
    rw [if_pos c17] at H
    have c17b0 := decide_eq_true c17
    clear c17
    replace H := Option.bind_eq_some_iff.mp H
    obtain ⟨⟨t257, t258, t259, t260, t261, t262, t263, t264⟩, A180, H⟩ := H
    replace H : (if x6_1.length < 8796093022208 then (impl_StockRun.l0 k1 (x6_1 ++ [(⟨t257, t258⟩ : S36)]) l0 (l0.length : Int) (wrap64 (x23_1 + 1)) t259 t260 t261 t262 t263 t264) else (none)) = some (r1, r2, r3, r4, r5, r6, r7, r8) := H
    have A18 := za A180
    clear A180
    by_cases c19 : x6_1.length < 8796093022208
    rotate_left
    ·rw [if_neg c19] at H
     exact absurd H (by simp)
    rw [if_pos c19] at H
    have LMc19 := za c19
    clear c19
    obtain ⟨y267, hy267⟩ : ∃ y_ : List (S36), y_ = (x6_1 ++ [(⟨t257, t258⟩ : S36)]) := ⟨_, rfl⟩
    replace H : (impl_StockRun.l0 k1 y267 l0 (l0.length : Int) (wrap64 (x23_1 + 1)) t259 t260 t261 t262 t263 t264) = some (r1, r2, r3, r4, r5, r6, r7, r8) := by first | (rw [hy267]; with_reducible exact H) | (have H2_ := (Option.bind_some _ _).symm.trans H; rw [hy267]; with_reducible exact H2_) | (have H2_ := (Option.bind_some _ _).symm.trans H; with_reducible exact H2_) | with_reducible exact H | (rw [hy267]; exact H) | exact H
    have Ny267 := za hy267
    clear hy267
    have H' := za H
    clear H
    have p255 : 0 ≤ (x23_1 : Int) := zO
    have q255 : x23_1 < (l0.length : Int) := zO
    obtain ⟨ad255, e255, hx255_0, hx255_1, hx255_2, hx255_3, hx255_4⟩ := at_T34 HR0.out x23_1 p255 q255
    cases e255
    replace hx255_0 := (HB.out.cell (zo w _ hx255_0)).trans hx255_0
    replace hx255_1 := (HB.out.cell (zo w _ hx255_1)).trans hx255_1
    replace hx255_2 := (HB.out.cell (zo w _ hx255_2)).trans hx255_2
    replace hx255_3 := (HB.out.cell (zo w _ hx255_3)).trans hx255_3
    replace hx255_4 := (HB.out.cell (zo w _ hx255_4)).trans hx255_4
    replace p255 := eq_true p255
    replace q255 := eq_true q255
    go_wp2_with (first | ((with_reducible refine gate_dst (N := 8) rfl ?_); refine box_event ?hg (N := 8) ?hd (cs := (za5 0 (⟨#[]⟩ : ByteArray) 0 0 0)) (t := 34) ?hr ?_; (case hd => rfl); (case hg => rfl); (case hr => exact zH81); intro gb256 hg w20 hbox hb; have n_ := zA_ (za (zt zK153 hb)) (zA_ (za (zt (by (with_reducible repeat (first | apply zj | apply zk | apply zl)); exact HO_255005.out) hb)) (zA_ (za (zq (g := gb249) (o := .cells (zs6 0 0 0 0 0 (.slice none 0 0)) 29 (0, 0)) zK141 hb)) (zA_ (za (zq (g := gb254) (o := .cells (zs6 x255000_1 x255001_1 x255002_1 x255003_1 x255004_1 u255005) 29 (0, 0)) zK142 hb)) (zA_ (za (zu zK122 hb)) (zA_ (za (hbox)) (zA_ (zN1 w.heap.size hg (zv zK122)) (zA_ (zN1 w.heap.size hg (zv zK122)) (zN3 hg (zx (g := gb249) (o := .cells (zs6 0 0 0 0 0 (.slice none 0 0)) 29 (0, 0)) zK141) (zN2 hg (zx (g := gb254) (o := .cells (zs6 x255000_1 x255001_1 x255002_1 x255003_1 x255004_1 u255005) 29 (0, 0)) zK142)))))))))); clear HO_6 HO_255005 BK249 BK254 HB; obtain ⟨HO_6, HO_255005, BK249, BK254, HB, BK256, GW256, GE256, NB249_256, NB256_249, NB254_256, NB256_254⟩ := n_; clear hb hbox hg; have hnb21 := NB256_249.out; have hnc21 := NB249_256.out; have hnb22 := NB256_254.out; have hnc22 := NB254_256.out; have hcz23_0 : w20.cell? ⟨gb256, 0, none⟩ = some (.int .i64 0) := (q7a BK256.out 0).trans rfl; have hcz23_1 : w20.cell? ⟨gb256, 1, none⟩ = some (.string (⟨#[]⟩ : ByteArray)) := (q7a BK256.out 1).trans rfl; have hcz23_2 : w20.cell? ⟨gb256, 2, none⟩ = some (.int .i64 0) := (q7a BK256.out 2).trans rfl; have hcz23_3 : w20.cell? ⟨gb256, 3, none⟩ = some (.int .i64 0) := (q7a BK256.out 3).trans rfl; have hcz23_4 : w20.cell? ⟨gb256, 4, none⟩ = some (.int .i64 0) := (q7a BK256.out 4).trans rfl; have hfz23_0 := zd BK256.out 0; have hfz23_1 := zd BK256.out 1; have hfz23_2 := zd BK256.out 2; have hfz23_3 := zd BK256.out 3; have hfz23_4 := zd BK256.out 4) | ((with_reducible refine gate_store (t := 34) (p := 8) rfl ?_); refine store_event (t := 34) (p := 8) (v := ?vo_w24) (w1 := (((((w20.setCell ⟨gb256, 0, none⟩ (.int .i64 ((rd_T34 l0 x23_1).f0))).setCell ⟨gb256, 1, none⟩ (.string ((rd_T34 l0 x23_1).f1))).setCell ⟨gb256, 2, none⟩ (.int .i64 ((rd_T34 l0 x23_1).f2))).setCell ⟨gb256, 3, none⟩ (.int .i64 ((rd_T34 l0 x23_1).f3))).setCell ⟨gb256, 4, none⟩ (.int .i64 ((rd_T34 l0 x23_1).f4)))) ?hg ?ho ?hn ?hr ?_; (case ho => rfl); (case hg => rfl); (case hn => rfl); (case hr => exact zH81); intro w24 hw; have n0_ : Aside0 (Kd.R k36 36 w24 w.heap.size (fun _ => True) u6 x6_1) := ⟨(by rw [hw]; exact (by (with_reducible repeat (first | apply zj | apply zk | apply zl)); exact zn (zm (p := ⟨gb256, 4, none⟩) (zm (p := ⟨gb256, 3, none⟩) (zm (p := ⟨gb256, 2, none⟩) (zm (p := ⟨gb256, 1, none⟩) (zm (p := ⟨gb256, 0, none⟩) (zz HO_6.out BK256.out zG70) (fun _ hk => hk.2) (.int .i64 ((rd_T34 l0 x23_1).f0))) (fun _ hk => hk.2) (.string ((rd_T34 l0 x23_1).f1))) (fun _ hk => hk.2) (.int .i64 ((rd_T34 l0 x23_1).f2))) (fun _ hk => hk.2) (.int .i64 ((rd_T34 l0 x23_1).f3))) (fun _ hk => hk.2) (.int .i64 ((rd_T34 l0 x23_1).f4))) (fun _ hk => trivial)))⟩; have n1_ : Aside0 (Kd.R k38 38 w24 w.heap.size (fun _ => True) u255005 x255005_1) := ⟨(by rw [hw]; exact (by (with_reducible repeat (first | apply zj | apply zk | apply zl)); exact zn (zm (p := ⟨gb256, 4, none⟩) (zm (p := ⟨gb256, 3, none⟩) (zm (p := ⟨gb256, 2, none⟩) (zm (p := ⟨gb256, 1, none⟩) (zm (p := ⟨gb256, 0, none⟩) (zz HO_255005.out BK256.out zG70) (fun _ hk => hk.2) (.int .i64 ((rd_T34 l0 x23_1).f0))) (fun _ hk => hk.2) (.string ((rd_T34 l0 x23_1).f1))) (fun _ hk => hk.2) (.int .i64 ((rd_T34 l0 x23_1).f2))) (fun _ hk => hk.2) (.int .i64 ((rd_T34 l0 x23_1).f3))) (fun _ hk => hk.2) (.int .i64 ((rd_T34 l0 x23_1).f4))) (fun _ hk => trivial)))⟩; have n2_ : Aside0 (w24.heap[gb249]? = some (.cells (zs6 0 0 0 0 0 (.slice none 0 0)) 29 (0, 0))) := ⟨(by rw [hw]; exact (by (with_reducible repeat (first | refine zc ?_ _ | refine ze ?_ | refine zb ?_ _)); refine zp ?_ NB249_256.out _; (with_reducible repeat (first | refine zc ?_ _ | refine ze ?_ | refine zb ?_ _)); refine zp ?_ NB249_256.out _; (with_reducible repeat (first | refine zc ?_ _ | refine ze ?_ | refine zb ?_ _)); refine zp ?_ NB249_256.out _; (with_reducible repeat (first | refine zc ?_ _ | refine ze ?_ | refine zb ?_ _)); refine zp ?_ NB249_256.out _; (with_reducible repeat (first | refine zc ?_ _ | refine ze ?_ | refine zb ?_ _)); refine zp ?_ NB249_256.out _; (with_reducible repeat (first | refine zc ?_ _ | refine ze ?_ | refine zb ?_ _)); exact BK249.out))⟩; have n3_ : Aside0 (w24.heap[gb254]? = some (.cells (zs6 x255000_1 x255001_1 x255002_1 x255003_1 x255004_1 u255005) 29 (0, 0))) := ⟨(by rw [hw]; exact (by (with_reducible repeat (first | refine zc ?_ _ | refine ze ?_ | refine zb ?_ _)); refine zp ?_ NB254_256.out _; (with_reducible repeat (first | refine zc ?_ _ | refine ze ?_ | refine zb ?_ _)); refine zp ?_ NB254_256.out _; (with_reducible repeat (first | refine zc ?_ _ | refine ze ?_ | refine zb ?_ _)); refine zp ?_ NB254_256.out _; (with_reducible repeat (first | refine zc ?_ _ | refine ze ?_ | refine zb ?_ _)); refine zp ?_ NB254_256.out _; (with_reducible repeat (first | refine zc ?_ _ | refine ze ?_ | refine zb ?_ _)); refine zp ?_ NB254_256.out _; (with_reducible repeat (first | refine zc ?_ _ | refine ze ?_ | refine zb ?_ _)); exact BK254.out))⟩; have n4_ : Aside0 (w24.heap[gb256]? = some (.cells (za5 ((rd_T34 l0 x23_1).f0) ((rd_T34 l0 x23_1).f1) ((rd_T34 l0 x23_1).f2) ((rd_T34 l0 x23_1).f3) ((rd_T34 l0 x23_1).f4)) 34 (0, 0))) := ⟨(by rw [hw]; exact (by (with_reducible repeat (first | refine zc ?_ _ | refine ze ?_ | refine zb ?_ _)); refine zr (cs := (za5 ((rd_T34 l0 x23_1).f0) ((rd_T34 l0 x23_1).f1) ((rd_T34 l0 x23_1).f2) ((rd_T34 l0 x23_1).f3) 0)) ?_ 4 _ rfl; (with_reducible repeat (first | refine zc ?_ _ | refine ze ?_ | refine zb ?_ _)); refine zr (cs := (za5 ((rd_T34 l0 x23_1).f0) ((rd_T34 l0 x23_1).f1) ((rd_T34 l0 x23_1).f2) 0 0)) ?_ 3 _ rfl; (with_reducible repeat (first | refine zc ?_ _ | refine ze ?_ | refine zb ?_ _)); refine zr (cs := (za5 ((rd_T34 l0 x23_1).f0) ((rd_T34 l0 x23_1).f1) 0 0 0)) ?_ 2 _ rfl; (with_reducible repeat (first | refine zc ?_ _ | refine ze ?_ | refine zb ?_ _)); refine zr (cs := (za5 ((rd_T34 l0 x23_1).f0) (⟨#[]⟩ : ByteArray) 0 0 0)) ?_ 1 _ rfl; (with_reducible repeat (first | refine zc ?_ _ | refine ze ?_ | refine zb ?_ _)); refine zr (cs := (za5 0 (⟨#[]⟩ : ByteArray) 0 0 0)) ?_ 0 _ rfl; (with_reducible repeat (first | refine zc ?_ _ | refine ze ?_ | refine zb ?_ _)); exact BK256.out))⟩; have n5_ : Aside0 (Below w.heap.size w w24) := ⟨(by rw [hw]; exact zK116)⟩; clear hw HO_6; clear HO_255005 BK249; clear BK254 BK256 HB; have HO_6 := n0_; have HO_255005 := n1_; have BK249 := n2_; have BK254 := n3_; have BK256 := n4_; have HB := n5_; clear n0_ n1_ n2_ n3_ n4_ n5_; have hcz25_0 : w24.cell? ⟨gb256, 0, none⟩ = some (.int .i64 ((rd_T34 l0 x23_1).f0)) := (q7a BK256.out 0).trans rfl; have hcz25_1 : w24.cell? ⟨gb256, 1, none⟩ = some (.string ((rd_T34 l0 x23_1).f1)) := (q7a BK256.out 1).trans rfl; have hcz25_2 : w24.cell? ⟨gb256, 2, none⟩ = some (.int .i64 ((rd_T34 l0 x23_1).f2)) := (q7a BK256.out 2).trans rfl; have hcz25_3 : w24.cell? ⟨gb256, 3, none⟩ = some (.int .i64 ((rd_T34 l0 x23_1).f3)) := (q7a BK256.out 3).trans rfl; have hcz25_4 : w24.cell? ⟨gb256, 4, none⟩ = some (.int .i64 ((rd_T34 l0 x23_1).f4)) := (q7a BK256.out 4).trans rfl; have hfz25_0 := zd BK256.out 0; have hfz25_1 := zd BK256.out 1; have hfz25_2 := zd BK256.out 2; have hfz25_3 := zd BK256.out 3; have hfz25_4 := zd BK256.out 4; obtain ⟨Ao26, co26, eo26⟩ := zab HO_255005.out; subst eo26) | ((with_reducible refine gate_callee (f := 24) rfl ?_); refine goesL_ (some 29) rfl rfl Try.func24 zG69 rfl #[.pointer (some ⟨gb254, 0, none⟩), .agg (za5 ((rd_T34 l0 x23_1).f0) ((rd_T34 l0 x23_1).f1) ((rd_T34 l0 x23_1).f2) ((rd_T34 l0 x23_1).f3) ((rd_T34 l0 x23_1).f4))] rfl zG56 ?_; (with_reducible refine (impl_Stock_do.calls k1 gb254 x255000_1 x255001_1 x255002_1 x255003_1 x255004_1 (fun k_ => some k_ = (.slice Ao26 x255005_1.length co26 : Value).ownBlock) (.slice Ao26 x255005_1.length co26) x255005_1 ((rd_T34 l0 x23_1).f0) ((rd_T34 l0 x23_1).f1) ((rd_T34 l0 x23_1).f2) ((rd_T34 l0 x23_1).f3) ((rd_T34 l0 x23_1).f4) t257 t258 t259 t260 t261 t262 t263 t264 w _ ?side1 ?side2 ?side3 ?side4 A18.out).mono ?_); (case side1 => repeat (first | (with_reducible first | exact HB.out | apply zi | apply zg | apply zh | refine zf ?_ GE249.out | refine zf ?_ GE254.out | refine zf ?_ GE256.out) | exact HB.out)); (case side2 => exact zK142); (case side3 => exact GE254.out); (case side4 => exact Kd.R_tight rfl HO_255005.out); rintro e w27 ⟨v265, rfl, ho0, hz0, hb, hkp⟩; refine ⟨_, rfl, ?_⟩; have n_ := zA_ (za (zn (ok' := fun k_ => True) (Kd.R_keptB ((zz (Kd.R_apart' HO_6.out (zav HO_255005.out) zG70) BK254.out zG70)) hkp (fun k_ hk_ hs_ => Or.elim hs_ (fun hs_ => (hk_.1.2) hs_) (fun e_ => (hk_.2) e_))) (fun k_ hk_ => trivial))) (zA_ (za (zan zK141 hkp (fun hs_ => Or.elim hs_ (fun hs_ => (fun e_ => (zai HO_255005.out BK249.out zG70) e_) hs_) (fun e_ => NB249_254.out e_)))) (zA_ (za (hz0)) (zA_ (za (zan (by (with_reducible repeat (first | refine zc ?_ _ | refine ze ?_ | refine zb ?_ _)); exact BK256.out) hkp (fun hs_ => Or.elim hs_ (fun hs_ => (fun e_ => (zai HO_255005.out BK256.out zG70) e_) hs_) (fun e_ => NB256_254.out e_)))) (zA_ (za (zn (ok' := fun k_ => True) ho0 (fun k_ hk_ => trivial))) (za (hb)))))); clear HO_6 BK249 BK254 BK256 HB HO_255005; obtain ⟨HO_6, BK249, BK254, BK256, HO266, HB⟩ := n_; (try clear hb); (try clear hkp); (try clear ho0); (try clear hz0)) | ((with_reducible refine gate_builtin (b := .append) (xs := #[.tmp 27, .tmp 30]) rfl ?_); at_builtin; refine zas k36 (w0 := w) w.heap.size rfl (.tmp 27) (.tmp 30) 26 36 (.agg #[(.int .i64 0), (.int .i64 0)]) 16 rfl Try.underlying26 info36 rfl zG70 (by omega) u6 x6_1 (⟨t257, t258⟩ : S36) [.int .i64 t257, .int .i64 t258] (fun _ => True) (fun _ => False) rfl rfl ?aP (fun _ hk => hk.elim) ?aF ?aO ?aB ?aS ?aL ?_; (case aP => exact k36_mkM _ _ _ (⟨t257, t258⟩ : S36)); (case aB => exact zK116); (case aF => exact (fun _ _ => trivial)); (case aO => exact zK153); (case aS => exact (zv zK116)); (case aL => have := LMc19.out; omega); intro v268 w28 ho hb hg hat; rw [← Ny267.out] at ho; have n_ := zA_ (za (zam (g := gb249) (o := .cells (zs6 0 0 0 0 0 (.slice none 0 0)) 29 (0, 0)) zK141 hg (zai HO_6.out BK249.out zG70))) (zA_ (za (zam (g := gb254) (o := .cells (zs6 t259 t260 t261 t262 t263 v265) 29 (0, 0)) zK142 hg (zai HO_6.out BK254.out zG70))) (zA_ (za (zam (g := gb256) (o := .cells (za5 ((rd_T34 l0 x23_1).f0) ((rd_T34 l0 x23_1).f1) ((rd_T34 l0 x23_1).f2) ((rd_T34 l0 x23_1).f3) ((rd_T34 l0 x23_1).f4)) 34 (0, 0)) (by (with_reducible repeat (first | refine zc ?_ _ | refine ze ?_ | refine zb ?_ _)); exact BK256.out) hg (zai HO_6.out BK256.out zG70))) (zA_ (za (zay (by (with_reducible repeat (first | apply zj | apply zk | apply zl)); exact HO266.out) (zav zK153) zG70 hg)) (zA_ (za (hb)) (za (ho)))))); clear BK249 BK254 BK256 HO266 HB HO_6; obtain ⟨BK249, BK254, BK256, HO266, HB, HO269⟩ := n_; clear ho hb hg hat))
    go_roundg k1
    case measure => have := HK1.out; omega
    case rel => exact ⟨(y267), (wrap64 (x23_1 + 1)), (t259), (t260), (t261), (t262), (t263), (t264), (v265), zG68, H', ⟨by have := HK1.out; omega⟩, ⟨by (with_reducible repeat (first | apply zj | apply zk | apply zl)); exact HO269.out⟩, ⟨by (with_reducible repeat (first | apply zj | apply zk | apply zl)); exact HO266.out⟩, ⟨by (with_reducible repeat (first | refine zc ?_ _ | refine ze ?_ | refine zb ?_ _)); exact BK249.out⟩, ⟨by (with_reducible repeat (first | refine zc ?_ _ | refine ze ?_ | refine zb ?_ _)); exact BK254.out⟩, ⟨by repeat (first | (with_reducible first | exact HB.out | apply zi | apply zg | apply zh | refine zf ?_ GE249.out | refine zf ?_ GE254.out | refine zf ?_ GE256.out) | exact HB.out)⟩⟩
   rw [if_neg c15] at H
   have c15b0 := decide_eq_false c15
   clear c15
   simp only [Option.some.injEq, Prod.mk.injEq] at H
   obtain ⟨rfl, rfl, rfl, rfl, rfl, rfl, rfl, rfl⟩ := H
   try go_wp2
   obtain ⟨n0_, n1_, n2_, n3_, n4_⟩ := zD5 (zl HO_6.out) (zl HO_255005.out) (ze BK249.out) (ze BK254.out) (zh HB.out)
   clear HO_6 HO_255005 BK249 BK254 HB
   have HO_6 := n0_
   have HO_255005 := n1_
   have BK249 := n2_
   have BK254 := n3_
   have HB := n4_
   clear n0_ n1_ n2_ n3_ n4_
   obtain ⟨Ao35, co35, eo35⟩ := zab HO_255005.out
   (first | subst eo35 | (injection eo35 with f1_ f2_ f3_; have f4_ := f1_.symm; have f5_ := f3_.symm; clear f1_ f2_ f3_; subst f4_; subst f5_))
   refine start_ (n := 5) (S := fun w' => w'.cell? ⟨gb254, 0, none⟩ = some (.int .i64 x255000_1) ∧ w'.cell? ⟨gb254, 1, none⟩ = some (.int .i64 x255001_1) ∧ w'.cell? ⟨gb254, 2, none⟩ = some (.int .i64 x255002_1) ∧ w'.cell? ⟨gb254, 3, none⟩ = some (.int .i64 x255003_1) ∧ w'.cell? ⟨gb254, 4, none⟩ = some (.int .i64 x255004_1) ∧ w'.cell? ⟨gb254, 5, none⟩ = some (.slice Ao35 x255005_1.length co35)) (ds := []) #[false, false, false, false, false] zG69 rfl rfl ⟨(q7a BK254.out 0).trans rfl, (q7a BK254.out 1).trans rfl, (q7a BK254.out 2).trans rfl, (q7a BK254.out 3).trans rfl, (q7a BK254.out 4).trans rfl, (q7a BK254.out 5).trans rfl⟩ (fun hHeld => ?_)
   generalize wr.drew = w29 at HO_6 HO_255005 BK249 BK254 HB hHeld ⊢
   refine pure_ (i := 0) (N := some 33) (v := ?_) (a' := ?_) #[true, false, false, false, false] rfl rfl zG69 (fun _ _ _ h => h) (Or.inl ⟨by rfl, ?_⟩) ?_ ?_
   rotate_left
   ·intro w'
    go_simp
    with_reducible rfl
   rotate_left
   ·simp only [Act.put, List.setIfInBounds_toArray, List.set_cons_zero, List.set_cons_succ, i64_w, i32_w]
    rfl
   refine pure_ (i := 2) (N := some 2) (v := ?_) (a' := ?_) #[true, false, true, false, false] rfl rfl zG69 (fun _ _ _ h => h) (Or.inl ⟨by rfl, ?_⟩) ?_ ?_
   rotate_left
   ·intro w'
    go_simp
    with_reducible rfl
   rotate_left
   ·simp only [Act.put, List.setIfInBounds_toArray, List.set_cons_zero, List.set_cons_succ, i64_w, i32_w]
    rfl
   refine take_ (i := 1) (N := some 34) (v := ?_) (a' := ?_) #[true, true, true, false, false] rfl rfl zG69 (fun _ _ _ h => h) (Or.inl ⟨by rfl, ?_⟩) hHeld ?_ ?_
   rotate_left
   ·rintro w' ⟨s0, s1, s2, s3, s4, s5⟩
    go_simp
    with_reducible rfl
   rotate_left
   ·simp only [Act.put, List.setIfInBounds_toArray, List.set_cons_zero, List.set_cons_succ, i64_w, i32_w]
    rfl
   refine one_ (i := 3) (N := none) #[true, true, true, true, false] rfl rfl zG69 zG70 (fun K hK => ?_)
   have hs30 : w29.cell? ⟨gb249, 0, none⟩ = some (.int .i64 0) := (q7a BK249.out 0).trans rfl
   have hfs30 := zd BK249.out 0
   have hns30_1 := NB254_249.out
   have hms30_1 := NB249_254.out
   have hs31 : w29.cell? ⟨gb249, 1, none⟩ = some (.int .i64 0) := (q7a BK249.out 1).trans rfl
   have hfs31 := zd BK249.out 1
   have hns31_1 := NB254_249.out
   have hms31_1 := NB249_254.out
   have hs32 : w29.cell? ⟨gb249, 2, none⟩ = some (.int .i64 0) := (q7a BK249.out 2).trans rfl
   have hfs32 := zd BK249.out 2
   have hns32_1 := NB254_249.out
   have hms32_1 := NB249_254.out
   have hs33 : w29.cell? ⟨gb249, 3, none⟩ = some (.int .i64 0) := (q7a BK249.out 3).trans rfl
   have hfs33 := zd BK249.out 3
   have hns33_1 := NB254_249.out
   have hms33_1 := NB249_254.out
   have hs34 : w29.cell? ⟨gb249, 4, none⟩ = some (.int .i64 0) := (q7a BK249.out 4).trans rfl
   have hfs34 := zd BK249.out 4
   have hns34_1 := NB254_249.out
   have hms34_1 := NB249_254.out
   have hs36 : w29.cell? ⟨gb249, 5, none⟩ = some (.slice none 0 0) := (q7a BK249.out 5).trans rfl
   have hfs36 := zd BK249.out 5
   have hns36_1 := NB254_249.out
   have hms36_1 := NB249_254.out
   refine skip_ (w1 := ?_) (by rfl) rfl ?_ ?_
   rotate_left
   ·go_simp
    rfl
   refine hK.out _ _ ⟨((cell_far (p := ⟨gb249, _, none⟩) NB254_249.out _).trans (((cell_far (p := ⟨gb249, _, none⟩) NB254_249.out _).trans (((cell_far (p := ⟨gb249, _, none⟩) NB254_249.out _).trans (((cell_far (p := ⟨gb249, _, none⟩) NB254_249.out _).trans (((cell_far (p := ⟨gb249, _, none⟩) NB254_249.out _).trans (((cell_far (p := ⟨gb249, _, none⟩) NB254_249.out _).trans (hHeld.1)))))))))))), ((cell_far (p := ⟨gb249, _, none⟩) NB254_249.out _).trans (((cell_far (p := ⟨gb249, _, none⟩) NB254_249.out _).trans (((cell_far (p := ⟨gb249, _, none⟩) NB254_249.out _).trans (((cell_far (p := ⟨gb249, _, none⟩) NB254_249.out _).trans (((cell_far (p := ⟨gb249, _, none⟩) NB254_249.out _).trans (((cell_far (p := ⟨gb249, _, none⟩) NB254_249.out _).trans (hHeld.2.1)))))))))))), ((cell_far (p := ⟨gb249, _, none⟩) NB254_249.out _).trans (((cell_far (p := ⟨gb249, _, none⟩) NB254_249.out _).trans (((cell_far (p := ⟨gb249, _, none⟩) NB254_249.out _).trans (((cell_far (p := ⟨gb249, _, none⟩) NB254_249.out _).trans (((cell_far (p := ⟨gb249, _, none⟩) NB254_249.out _).trans (((cell_far (p := ⟨gb249, _, none⟩) NB254_249.out _).trans (hHeld.2.2.1)))))))))))), ((cell_far (p := ⟨gb249, _, none⟩) NB254_249.out _).trans (((cell_far (p := ⟨gb249, _, none⟩) NB254_249.out _).trans (((cell_far (p := ⟨gb249, _, none⟩) NB254_249.out _).trans (((cell_far (p := ⟨gb249, _, none⟩) NB254_249.out _).trans (((cell_far (p := ⟨gb249, _, none⟩) NB254_249.out _).trans (((cell_far (p := ⟨gb249, _, none⟩) NB254_249.out _).trans (hHeld.2.2.2.1)))))))))))), ((cell_far (p := ⟨gb249, _, none⟩) NB254_249.out _).trans (((cell_far (p := ⟨gb249, _, none⟩) NB254_249.out _).trans (((cell_far (p := ⟨gb249, _, none⟩) NB254_249.out _).trans (((cell_far (p := ⟨gb249, _, none⟩) NB254_249.out _).trans (((cell_far (p := ⟨gb249, _, none⟩) NB254_249.out _).trans (((cell_far (p := ⟨gb249, _, none⟩) NB254_249.out _).trans (hHeld.2.2.2.2.1)))))))))))), ((cell_far (p := ⟨gb249, _, none⟩) NB254_249.out _).trans (((cell_far (p := ⟨gb249, _, none⟩) NB254_249.out _).trans (((cell_far (p := ⟨gb249, _, none⟩) NB254_249.out _).trans (((cell_far (p := ⟨gb249, _, none⟩) NB254_249.out _).trans (((cell_far (p := ⟨gb249, _, none⟩) NB254_249.out _).trans (((cell_far (p := ⟨gb249, _, none⟩) NB254_249.out _).trans (hHeld.2.2.2.2.2))))))))))))⟩ (fun hHeld => ?_)
   clear hK K
   refine pure_ (i := 4) (N := some 4) (v := ?_) (a' := ?_) #[true, true, true, true, true] rfl rfl zG69 (fun _ _ _ h => h) (Or.inl ⟨by rfl, ?_⟩) ?_ ?_
   rotate_left
   ·intro w'
    go_simp
    with_reducible rfl
   rotate_left
   ·simp only [Act.put, List.setIfInBounds_toArray, List.set_cons_zero, List.set_cons_succ, i64_w, i32_w]
    rfl
   refine done_ zG69 ?_
   try go_wp2
   refine bodyPost_ret (results_list (rs := [.tmp 2, .cell 3 29, .tmp 4]) rfl (by simp) (.tmp (.cell gb249 29 (zs6 x255000_1 x255001_1 x255002_1 x255003_1 x255004_1 (.slice Ao35 x255005_1.length co35)) (0, 0) _ rfl (by (with_reducible repeat (first | refine zc ?_ _ | refine ze ?_ | refine zb ?_ _)); refine zr (cs := (zs6 x255000_1 x255001_1 x255002_1 x255003_1 x255004_1 (.slice none 0 0))) ?_ 5 _ rfl; (with_reducible repeat (first | refine zc ?_ _ | refine ze ?_ | refine zb ?_ _)); refine zr (cs := (zs6 x255000_1 x255001_1 x255002_1 x255003_1 0 (.slice none 0 0))) ?_ 4 _ rfl; (with_reducible repeat (first | refine zc ?_ _ | refine ze ?_ | refine zb ?_ _)); refine zr (cs := (zs6 x255000_1 x255001_1 x255002_1 0 0 (.slice none 0 0))) ?_ 3 _ rfl; (with_reducible repeat (first | refine zc ?_ _ | refine ze ?_ | refine zb ?_ _)); refine zr (cs := (zs6 x255000_1 x255001_1 0 0 0 (.slice none 0 0))) ?_ 2 _ rfl; (with_reducible repeat (first | refine zc ?_ _ | refine ze ?_ | refine zb ?_ _)); refine zr (cs := (zs6 x255000_1 0 0 0 0 (.slice none 0 0))) ?_ 1 _ rfl; (with_reducible repeat (first | refine zc ?_ _ | refine ze ?_ | refine zb ?_ _)); refine zr (cs := (zs6 0 0 0 0 0 (.slice none 0 0))) ?_ 0 _ rfl; (with_reducible repeat (first | refine zc ?_ _ | refine ze ?_ | refine zb ?_ _)); exact BK249.out) Try.underlying29 rfl zG69 (.tmp .nil)))) rfl ?_
   exact ⟨_, _, zH70, by (with_reducible repeat (first | apply zj | apply zk | apply zl)); exact zn (zm (p := ⟨gb249, 5, none⟩) (zm (p := ⟨gb249, 4, none⟩) (zm (p := ⟨gb249, 3, none⟩) (zm (p := ⟨gb249, 2, none⟩) (zm (p := ⟨gb249, 1, none⟩) (zm (p := ⟨gb249, 0, none⟩) (zz HO_6.out BK249.out zG70) (fun _ hk => hk.2) (.int .i64 x255000_1)) (fun _ hk => hk.2) (.int .i64 x255001_1)) (fun _ hk => hk.2) (.int .i64 x255002_1)) (fun _ hk => hk.2) (.int .i64 x255003_1)) (fun _ hk => hk.2) (.int .i64 x255004_1)) (fun _ hk => hk.2) (.slice Ao35 x255005_1.length co35)) (fun _ hk => trivial), by (with_reducible repeat (first | apply zj | apply zk | apply zl)); exact zn (zm (p := ⟨gb249, 5, none⟩) (zm (p := ⟨gb249, 4, none⟩) (zm (p := ⟨gb249, 3, none⟩) (zm (p := ⟨gb249, 2, none⟩) (zm (p := ⟨gb249, 1, none⟩) (zm (p := ⟨gb249, 0, none⟩) (zz HO_255005.out BK249.out zG70) (fun _ hk => hk.2) (.int .i64 x255000_1)) (fun _ hk => hk.2) (.int .i64 x255001_1)) (fun _ hk => hk.2) (.int .i64 x255002_1)) (fun _ hk => hk.2) (.int .i64 x255003_1)) (fun _ hk => hk.2) (.int .i64 x255004_1)) (fun _ hk => hk.2) (.slice Ao35 x255005_1.length co35)) (fun _ hk => trivial), zH36⟩
/-! ### laws_balanced: function 8 -/
def laws_balanced.l0 : Nat → Int → Int → Int → Int → Int → Int → Int → List (S38) → Option (Bool)
 | 0, _, _, _, _, _, _, _, _ => none
 | k + 1, x3, x4, x271000, x271001, x271002, x271003, x271004, x271005 => if x4 < (x271005.length : Int) then (if 0 ≤ x4 then (if ((rd_T38 x271005 x4).f2) < 1 then (some false) else (laws_balanced.l0 k (wrap64 (x3 + ((rd_T38 x271005 x4).f2))) (wrap64 (x4 + 1)) x271000 x271001 x271002 x271003 x271004 x271005)) else (none)) else (if x3 = x271001 then (if x271002 ≥ 0 then (if x271003 ≥ 0 then (some (decide (x271004 ≥ 0))) else (some false)) else (some false)) else (some false))
def laws_balanced.f (k : Nat) (a0_0 : Int) (a0_1 : Int) (a0_2 : Int) (a0_3 : Int) (a0_4 : Int) (l0_5 : List (S38)) : Option (Bool) := laws_balanced.l0 k (wrap64 ((wrap64 (a0_2 + a0_3)) + a0_4)) 0 a0_0 a0_1 a0_2 a0_3 a0_4 l0_5
theorem laws_balanced.mono_l : ∀ k, (∀ y0 y1 y2 y3 y4 y5 y6 y7, LeO (laws_balanced.l0 k y0 y1 y2 y3 y4 y5 y6 y7) (laws_balanced.l0 (k + 1) y0 y1 y2 y3 y4 y5 y6 y7))
 | 0 => fun _ _ _ _ _ _ _ _ r h => by simp [laws_balanced.l0] at h
 | k + 1 => by
  have ih0 := laws_balanced.mono_l k
  ·intro y0 y1 y2 y3 y4 y5 y6 y7
   unfold laws_balanced.l0
   repeat' first
   | (with_reducible exact ih0 _ _ _ _ _ _ _ _)
   | (with_reducible exact LeO.refl _)
   | (with_reducible exact LeO.none _)
   | (with_reducible refine LeO.ite ?_ ?_)
   | (with_reducible refine LeO.bind ?_ (fun _ => ?_))
   | exact ih0 _ _ _ _ _ _ _ _
   | exact LeO.none _
   | refine LeO.ite ?_ ?_
   | refine LeO.bind ?_ (fun _ => ?_)
theorem laws_balanced.mono : ∀ a0 a1 a2 a3 a4 a5 k, LeO (laws_balanced.f k a0 a1 a2 a3 a4 a5) (laws_balanced.f (k + 1) a0 a1 a2 a3 a4 a5) := by
 intro a0 a1 a2 a3 a4 a5 k
 have ih0 := laws_balanced.mono_l k
 unfold laws_balanced.f
 repeat' first
   | (with_reducible exact ih0 _ _ _ _ _ _ _ _)
   | (with_reducible exact LeO.refl _)
   | (with_reducible exact LeO.none _)
   | (with_reducible refine LeO.ite ?_ ?_)
   | (with_reducible refine LeO.bind ?_ (fun _ => ?_))
   | exact ih0 _ _ _ _ _ _ _ _
   | exact LeO.none _
   | refine LeO.ite ?_ ?_
   | refine LeO.bind ?_ (fun _ => ?_)
set_option maxHeartbeats 64000000 in
set_option maxRecDepth 100000 in
theorem laws_balanced.calls (k : Nat) (a0_0 : Int) (a0_1 : Int) (a0_2 : Int) (a0_3 : Int) (a0_4 : Int) (A0_5 : Option Addr) (c0_5 : Nat) (l0_5 : List (S38)) (r : Bool) (w : World) (hr0_5 : Kd.C k38 w A0_5 l0_5.length l0_5) (hc0_5 : l0_5.length ≤ c0_5) (h : laws_balanced.f k a0_0 a0_1 a0_2 a0_3 a0_4 l0_5 = some r) :
  Calls Try.prog 8 #[.agg (zs6 a0_0 a0_1 a0_2 a0_3 a0_4 (.slice A0_5 l0_5.length c0_5))] w fun e w' => e = .returned (.bool r) ∧ Below w.heap.size w w' := by
 have hu29 := Try.underlying29
 obtain ⟨HR0_5, HC0_5, HB⟩ := zD3 hr0_5 hc0_5 (Below.refl w.heap.size w)
 clear hr0_5 hc0_5
 have H : (laws_balanced.l0 k (wrap64 ((wrap64 (a0_2 + a0_3)) + a0_4)) 0 a0_0 a0_1 a0_2 a0_3 a0_4 l0_5) = some r := h
 clear h
 have H' := za H
 clear H
 go_enter Try.func8, Try.ntmps8
 go_wp2_with (first | ((with_reducible refine gate_dst (N := 1) rfl ?_); refine box_event ?hg (N := 1) ?hd (cs := (zs6 a0_0 a0_1 a0_2 a0_3 a0_4 (.slice A0_5 l0_5.length c0_5))) (t := 29) ?hr ?_; (case hd => rfl); (case hg => rfl); (case hr => exact zH81); intro gb270 hg w2 hbox hb; have n_ := zA_ (za (zu zG58 hb)) (zA_ (za (hbox)) (zA_ (zN1 w.heap.size hg (zv zG58)) (zN1 w.heap.size hg (zv zG58)))); clear HB; obtain ⟨HB, BK270, GW270, GE270⟩ := n_; clear hb hbox hg; have hcz3_0 : w2.cell? ⟨gb270, 0, none⟩ = some (.int .i64 a0_0) := (q7a BK270.out 0).trans rfl; have hcz3_1 : w2.cell? ⟨gb270, 1, none⟩ = some (.int .i64 a0_1) := (q7a BK270.out 1).trans rfl; have hcz3_2 : w2.cell? ⟨gb270, 2, none⟩ = some (.int .i64 a0_2) := (q7a BK270.out 2).trans rfl; have hcz3_3 : w2.cell? ⟨gb270, 3, none⟩ = some (.int .i64 a0_3) := (q7a BK270.out 3).trans rfl; have hcz3_4 : w2.cell? ⟨gb270, 4, none⟩ = some (.int .i64 a0_4) := (q7a BK270.out 4).trans rfl; have hcz3_5 : w2.cell? ⟨gb270, 5, none⟩ = some (.slice A0_5 l0_5.length c0_5) := (q7a BK270.out 5).trans rfl; have hfz3_0 := zd BK270.out 0; have hfz3_1 := zd BK270.out 1; have hfz3_2 := zd BK270.out 2; have hfz3_3 := zd BK270.out 3; have hfz3_4 := zd BK270.out 4; have hfz3_5 := zd BK270.out 5))
 go_loopg [3, 4] k (fun kq v3 v4 w' => ∃ (x3_1 : Int) (x4_1 : Int), v3 = .int .i64 x3_1 ∧ v4 = .int .i64 x4_1 ∧ Aside0 (laws_balanced.l0 kq x3_1 x4_1 a0_0 a0_1 a0_2 a0_3 a0_4 l0_5 = some r) ∧ Aside0 (kq ≤ k) ∧ Aside0 (w'.heap[gb270]? = some (.cells (zs6 a0_0 a0_1 a0_2 a0_3 a0_4 (.slice A0_5 l0_5.length c0_5)) 29 (0, 0))) ∧ Aside0 (Below w.heap.size w w'))
 case atStart => exact ⟨(wrap64 ((wrap64 (a0_2 + a0_3)) + a0_4)), (0), zG68, zG68, H', ⟨Nat.le_refl _⟩, ⟨by (with_reducible repeat (first | refine zc ?_ _ | refine ze ?_ | refine zb ?_ _)); exact BK270.out⟩, ⟨zH48⟩⟩
 case round =>
  clear H'
  try clear hcz3_0
  try clear hcz3_1
  try clear hcz3_2
  try clear hcz3_3
  try clear hcz3_4
  try clear hcz3_5
  try clear hfz3_0
  try clear hfz3_1
  try clear hfz3_2
  try clear hfz3_3
  try clear hfz3_4
  try clear hfz3_5
  obtain ⟨x3_1, x4_1, rfl, rfl, HA, HK1, BK270, HB⟩ := hrel
  cases gk with
  | zero => exact absurd HA.out (by simp [laws_balanced.l0])
  | succ k1 =>
   have H := HA.out
   clear HA
   simp only [laws_balanced.l0] at H
   by_cases c4 : x4_1 < (l0_5.length : Int)
   ·rw [if_pos c4] at H
    have c4b0 := decide_eq_true c4
    clear c4
    by_cases c5 : 0 ≤ x4_1
    rotate_left
    ·rw [if_neg c5] at H
     exact absurd H (by simp)
    rw [if_pos c5] at H
    have c5b0 := decide_eq_true c5
    clear c5
    by_cases c6 : ((rd_T38 l0_5 x4_1).f2) < 1
    ·rw [if_pos c6] at H
     have c6b0 := decide_eq_true c6
     clear c6
     obtain rfl := Option.some.inj H
     have hcz7_0 : wr.cell? ⟨gb270, 0, none⟩ = some (.int .i64 a0_0) := (q7a BK270.out 0).trans rfl
     have hcz7_1 : wr.cell? ⟨gb270, 1, none⟩ = some (.int .i64 a0_1) := (q7a BK270.out 1).trans rfl
     have hcz7_2 : wr.cell? ⟨gb270, 2, none⟩ = some (.int .i64 a0_2) := (q7a BK270.out 2).trans rfl
     have hcz7_3 : wr.cell? ⟨gb270, 3, none⟩ = some (.int .i64 a0_3) := (q7a BK270.out 3).trans rfl
     have hcz7_4 : wr.cell? ⟨gb270, 4, none⟩ = some (.int .i64 a0_4) := (q7a BK270.out 4).trans rfl
     have hcz7_5 : wr.cell? ⟨gb270, 5, none⟩ = some (.slice A0_5 l0_5.length c0_5) := (q7a BK270.out 5).trans rfl
     have hfz7_0 := zd BK270.out 0
     have hfz7_1 := zd BK270.out 1
     have hfz7_2 := zd BK270.out 2
     have hfz7_3 := zd BK270.out 3
     have hfz7_4 := zd BK270.out 4
     have hfz7_5 := zd BK270.out 5
     have p271 : 0 ≤ (x4_1 : Int) := zO
     have q271 : x4_1 < (l0_5.length : Int) := zO
     obtain ⟨ad271, e271, hx271_0, hx271_1, hx271_2, hx271_3, hx271_4⟩ := at_T38 HR0_5.out x4_1 p271 q271
     cases e271
     replace hx271_0 := (HB.out.cell (zo w _ hx271_0)).trans hx271_0
     replace hx271_1 := (HB.out.cell (zo w _ hx271_1)).trans hx271_1
     replace hx271_2 := (HB.out.cell (zo w _ hx271_2)).trans hx271_2
     replace hx271_3 := (HB.out.cell (zo w _ hx271_3)).trans hx271_3
     replace hx271_4 := (HB.out.cell (zo w _ hx271_4)).trans hx271_4
     replace p271 := eq_true p271
     replace q271 := eq_true q271
     go_wp2
     go_ret
     exact zH23
    rw [if_neg c6] at H
    have c6b0 := decide_eq_false c6
    clear c6
    have H' := za H
    clear H
    have hcz8_0 : wr.cell? ⟨gb270, 0, none⟩ = some (.int .i64 a0_0) := (q7a BK270.out 0).trans rfl
    have hcz8_1 : wr.cell? ⟨gb270, 1, none⟩ = some (.int .i64 a0_1) := (q7a BK270.out 1).trans rfl
    have hcz8_2 : wr.cell? ⟨gb270, 2, none⟩ = some (.int .i64 a0_2) := (q7a BK270.out 2).trans rfl
    have hcz8_3 : wr.cell? ⟨gb270, 3, none⟩ = some (.int .i64 a0_3) := (q7a BK270.out 3).trans rfl
    have hcz8_4 : wr.cell? ⟨gb270, 4, none⟩ = some (.int .i64 a0_4) := (q7a BK270.out 4).trans rfl
    have hcz8_5 : wr.cell? ⟨gb270, 5, none⟩ = some (.slice A0_5 l0_5.length c0_5) := (q7a BK270.out 5).trans rfl
    have hfz8_0 := zd BK270.out 0
    have hfz8_1 := zd BK270.out 1
    have hfz8_2 := zd BK270.out 2
    have hfz8_3 := zd BK270.out 3
    have hfz8_4 := zd BK270.out 4
    have hfz8_5 := zd BK270.out 5
    have p271 : 0 ≤ (x4_1 : Int) := zO
    have q271 : x4_1 < (l0_5.length : Int) := zO
    obtain ⟨ad271, e271, hx271_0, hx271_1, hx271_2, hx271_3, hx271_4⟩ := at_T38 HR0_5.out x4_1 p271 q271
    cases e271
    replace hx271_0 := (HB.out.cell (zo w _ hx271_0)).trans hx271_0
    replace hx271_1 := (HB.out.cell (zo w _ hx271_1)).trans hx271_1
    replace hx271_2 := (HB.out.cell (zo w _ hx271_2)).trans hx271_2
    replace hx271_3 := (HB.out.cell (zo w _ hx271_3)).trans hx271_3
    replace hx271_4 := (HB.out.cell (zo w _ hx271_4)).trans hx271_4
    replace p271 := eq_true p271
    replace q271 := eq_true q271
    have p272 : 0 ≤ (x4_1 : Int) := zO
    have q272 : x4_1 < (l0_5.length : Int) := zO
    obtain ⟨ad272, e272, hx272_0, hx272_1, hx272_2, hx272_3, hx272_4⟩ := at_T38 HR0_5.out x4_1 p272 q272
    obtain rfl : ad271 = ad272 := (by injection e272)
    replace hx272_0 := (HB.out.cell (zo w _ hx272_0)).trans hx272_0
    replace hx272_1 := (HB.out.cell (zo w _ hx272_1)).trans hx272_1
    replace hx272_2 := (HB.out.cell (zo w _ hx272_2)).trans hx272_2
    replace hx272_3 := (HB.out.cell (zo w _ hx272_3)).trans hx272_3
    replace hx272_4 := (HB.out.cell (zo w _ hx272_4)).trans hx272_4
    replace p272 := eq_true p272
    replace q272 := eq_true q272
    go_wp2
    go_roundg k1
    case measure => have := HK1.out; omega
    case rel => exact ⟨(wrap64 (x3_1 + ((rd_T38 l0_5 x4_1).f2))), (wrap64 (x4_1 + 1)), zG68, zG68, H', ⟨by have := HK1.out; omega⟩, ⟨by (with_reducible repeat (first | refine zc ?_ _ | refine ze ?_ | refine zb ?_ _)); exact BK270.out⟩, ⟨zH48⟩⟩
   rw [if_neg c4] at H
   have c4b0 := decide_eq_false c4
   clear c4
   by_cases c9 : x3_1 = a0_1
   rotate_left
   ·rw [if_neg c9] at H
    have c9b0 : (x3_1 == a0_1) = false := beq_eq_false_iff_ne.mpr c9
    have c9b1 : (x3_1 != a0_1) = true := bne_iff_ne.mpr c9
    obtain rfl := Option.some.inj H
    have hcz15_0 : wr.cell? ⟨gb270, 0, none⟩ = some (.int .i64 a0_0) := (q7a BK270.out 0).trans rfl
    have hcz15_1 : wr.cell? ⟨gb270, 1, none⟩ = some (.int .i64 a0_1) := (q7a BK270.out 1).trans rfl
    have hcz15_2 : wr.cell? ⟨gb270, 2, none⟩ = some (.int .i64 a0_2) := (q7a BK270.out 2).trans rfl
    have hcz15_3 : wr.cell? ⟨gb270, 3, none⟩ = some (.int .i64 a0_3) := (q7a BK270.out 3).trans rfl
    have hcz15_4 : wr.cell? ⟨gb270, 4, none⟩ = some (.int .i64 a0_4) := (q7a BK270.out 4).trans rfl
    have hcz15_5 : wr.cell? ⟨gb270, 5, none⟩ = some (.slice A0_5 l0_5.length c0_5) := (q7a BK270.out 5).trans rfl
    have hfz15_0 := zd BK270.out 0
    have hfz15_1 := zd BK270.out 1
    have hfz15_2 := zd BK270.out 2
    have hfz15_3 := zd BK270.out 3
    have hfz15_4 := zd BK270.out 4
    have hfz15_5 := zd BK270.out 5
    go_wp2
    go_ret
    exact zH23

   rw [if_pos c9] at H
   have c9b0 : (x3_1 == a0_1) = true := beq_iff_eq.mpr c9
   have c9b1 : (x3_1 != a0_1) = false := bne_eq_false_iff_eq.mpr c9
   clear c9
   by_cases c10 : a0_2 ≥ 0
   rotate_left
   ·rw [if_neg c10] at H
    have c10b0 : decide (0 ≤ a0_2) = false := decide_eq_false c10
    clear c10
    obtain rfl := Option.some.inj H
    have hcz14_0 : wr.cell? ⟨gb270, 0, none⟩ = some (.int .i64 a0_0) := (q7a BK270.out 0).trans rfl
    have hcz14_1 : wr.cell? ⟨gb270, 1, none⟩ = some (.int .i64 a0_1) := (q7a BK270.out 1).trans rfl
    have hcz14_2 : wr.cell? ⟨gb270, 2, none⟩ = some (.int .i64 a0_2) := (q7a BK270.out 2).trans rfl
    have hcz14_3 : wr.cell? ⟨gb270, 3, none⟩ = some (.int .i64 a0_3) := (q7a BK270.out 3).trans rfl
    have hcz14_4 : wr.cell? ⟨gb270, 4, none⟩ = some (.int .i64 a0_4) := (q7a BK270.out 4).trans rfl
    have hcz14_5 : wr.cell? ⟨gb270, 5, none⟩ = some (.slice A0_5 l0_5.length c0_5) := (q7a BK270.out 5).trans rfl
    have hfz14_0 := zd BK270.out 0
    have hfz14_1 := zd BK270.out 1
    have hfz14_2 := zd BK270.out 2
    have hfz14_3 := zd BK270.out 3
    have hfz14_4 := zd BK270.out 4
    have hfz14_5 := zd BK270.out 5
    go_wp2
    go_ret
    exact zH23
   rw [if_pos c10] at H
   have c10b0 : decide (0 ≤ a0_2) = true := decide_eq_true c10
   clear c10
   by_cases c11 : a0_3 ≥ 0
   rotate_left
   ·rw [if_neg c11] at H
    have c11b0 : decide (0 ≤ a0_3) = false := decide_eq_false c11
    clear c11
    obtain rfl := Option.some.inj H
    have hcz13_0 : wr.cell? ⟨gb270, 0, none⟩ = some (.int .i64 a0_0) := (q7a BK270.out 0).trans rfl
    have hcz13_1 : wr.cell? ⟨gb270, 1, none⟩ = some (.int .i64 a0_1) := (q7a BK270.out 1).trans rfl
    have hcz13_2 : wr.cell? ⟨gb270, 2, none⟩ = some (.int .i64 a0_2) := (q7a BK270.out 2).trans rfl
    have hcz13_3 : wr.cell? ⟨gb270, 3, none⟩ = some (.int .i64 a0_3) := (q7a BK270.out 3).trans rfl
    have hcz13_4 : wr.cell? ⟨gb270, 4, none⟩ = some (.int .i64 a0_4) := (q7a BK270.out 4).trans rfl
    have hcz13_5 : wr.cell? ⟨gb270, 5, none⟩ = some (.slice A0_5 l0_5.length c0_5) := (q7a BK270.out 5).trans rfl
    have hfz13_0 := zd BK270.out 0
    have hfz13_1 := zd BK270.out 1
    have hfz13_2 := zd BK270.out 2
    have hfz13_3 := zd BK270.out 3
    have hfz13_4 := zd BK270.out 4
    have hfz13_5 := zd BK270.out 5
    go_wp2
    go_ret
    exact zH23
   rw [if_pos c11] at H
   have c11b0 : decide (0 ≤ a0_3) = true := decide_eq_true c11
   clear c11
   obtain rfl := Option.some.inj H
   have hcz12_0 : wr.cell? ⟨gb270, 0, none⟩ = some (.int .i64 a0_0) := (q7a BK270.out 0).trans rfl
   have hcz12_1 : wr.cell? ⟨gb270, 1, none⟩ = some (.int .i64 a0_1) := (q7a BK270.out 1).trans rfl
   have hcz12_2 : wr.cell? ⟨gb270, 2, none⟩ = some (.int .i64 a0_2) := (q7a BK270.out 2).trans rfl
   have hcz12_3 : wr.cell? ⟨gb270, 3, none⟩ = some (.int .i64 a0_3) := (q7a BK270.out 3).trans rfl
   have hcz12_4 : wr.cell? ⟨gb270, 4, none⟩ = some (.int .i64 a0_4) := (q7a BK270.out 4).trans rfl
   have hcz12_5 : wr.cell? ⟨gb270, 5, none⟩ = some (.slice A0_5 l0_5.length c0_5) := (q7a BK270.out 5).trans rfl
   have hfz12_0 := zd BK270.out 0
   have hfz12_1 := zd BK270.out 1
   have hfz12_2 := zd BK270.out 2
   have hfz12_3 := zd BK270.out 3
   have hfz12_4 := zd BK270.out 4
   have hfz12_5 := zd BK270.out 5
   go_wp2
   go_ret
   exact zH23
/-! ### laws_units: function 9 -/
def laws_units.l0 : Nat → List (S38) → Int → ByteArray → Int → Int → Int → Bool → Option (Int)
 | 0, _, _, _, _, _, _, _ => none
 | k + 1, x0, x5, x274000, x274001, x274002, x274003, x274004 => if x5 < (x0.length : Int) then (if 0 ≤ x5 then (if ((rd_T38 x0 x5).f0).toList = x274000.toList then (if ((rd_T38 x0 x5).f1) = x274001 then (some ((rd_T38 x0 x5).f2)) else (laws_units.l0 k x0 (wrap64 (x5 + 1)) x274000 x274001 x274002 x274003 x274004)) else (laws_units.l0 k x0 (wrap64 (x5 + 1)) x274000 x274001 x274002 x274003 x274004)) else (none)) else (some 0)
def laws_units.f (k : Nat) (l0 : List (S38)) (a1_0 : ByteArray) (a1_1 : Int) (a1_2 : Int) (a1_3 : Int) (a1_4 : Bool) : Option (Int) := laws_units.l0 k l0 0 a1_0 a1_1 a1_2 a1_3 a1_4
theorem laws_units.mono_l : ∀ k, (∀ y0 y1 y2 y3 y4 y5 y6, LeO (laws_units.l0 k y0 y1 y2 y3 y4 y5 y6) (laws_units.l0 (k + 1) y0 y1 y2 y3 y4 y5 y6))
 | 0 => fun _ _ _ _ _ _ _ r h => by simp [laws_units.l0] at h
 | k + 1 => by
  have ih0 := laws_units.mono_l k
  ·intro y0 y1 y2 y3 y4 y5 y6
   unfold laws_units.l0
   repeat' first
   | (with_reducible exact ih0 _ _ _ _ _ _ _)
   | (with_reducible exact LeO.refl _)
   | (with_reducible exact LeO.none _)
   | (with_reducible refine LeO.ite ?_ ?_)
   | (with_reducible refine LeO.bind ?_ (fun _ => ?_))
   | exact ih0 _ _ _ _ _ _ _
   | exact LeO.none _
   | refine LeO.ite ?_ ?_
   | refine LeO.bind ?_ (fun _ => ?_)
theorem laws_units.mono : ∀ a0 a1 a2 a3 a4 a5 k, LeO (laws_units.f k a0 a1 a2 a3 a4 a5) (laws_units.f (k + 1) a0 a1 a2 a3 a4 a5) := by
 intro a0 a1 a2 a3 a4 a5 k
 have ih0 := laws_units.mono_l k
 unfold laws_units.f
 repeat' first
   | (with_reducible exact ih0 _ _ _ _ _ _ _)
   | (with_reducible exact LeO.refl _)
   | (with_reducible exact LeO.none _)
   | (with_reducible refine LeO.ite ?_ ?_)
   | (with_reducible refine LeO.bind ?_ (fun _ => ?_))
   | exact ih0 _ _ _ _ _ _ _
   | exact LeO.none _
   | refine LeO.ite ?_ ?_
   | refine LeO.bind ?_ (fun _ => ?_)
set_option maxHeartbeats 64000000 in
set_option maxRecDepth 100000 in
theorem laws_units.calls (k : Nat) (A0 : Option Addr) (c0 : Nat) (l0 : List (S38)) (a1_0 : ByteArray) (a1_1 : Int) (a1_2 : Int) (a1_3 : Int) (a1_4 : Bool) (r : Int) (w : World) (hr0 : Kd.C k38 w A0 l0.length l0) (hc0 : l0.length ≤ c0) (h : laws_units.f k l0 a1_0 a1_1 a1_2 a1_3 a1_4 = some r) :
  Calls Try.prog 9 #[.slice A0 l0.length c0, .agg (zl5 a1_0 a1_1 a1_2 a1_3 a1_4)] w fun e w' => e = .returned (.int .i64 r) ∧ Below w.heap.size w w' := by
 have hu38 := Try.underlying38
 obtain ⟨HR0, HC0, HB⟩ := zD3 hr0 hc0 (Below.refl w.heap.size w)
 clear hr0 hc0
 have H : (laws_units.l0 k l0 0 a1_0 a1_1 a1_2 a1_3 a1_4) = some r := h
 clear h
 have H' := za H
 clear H
 go_enter Try.func9, Try.ntmps9
 go_wp2_with (first | ((with_reducible refine gate_dst (N := 3) rfl ?_); refine box_event ?hg (N := 3) ?hd (cs := (zl5 a1_0 a1_1 a1_2 a1_3 a1_4)) (t := 38) ?hr ?_; (case hd => rfl); (case hg => rfl); (case hr => exact zH81); intro gb273 hg w3 hbox hb; have n_ := zA_ (za (zu zG58 hb)) (zA_ (za (hbox)) (zA_ (zN1 w.heap.size hg (zv zG58)) (zN1 w.heap.size hg (zv zG58)))); clear HB; obtain ⟨HB, BK273, GW273, GE273⟩ := n_; clear hb hbox hg))
 repeat (go_quiet (first | ((with_reducible refine gate_dst (N := 3) rfl ?_); refine box_event ?hg (N := 3) ?hd (cs := (zl5 a1_0 a1_1 a1_2 a1_3 a1_4)) (t := 38) ?hr ?_; (case hd => rfl); (case hg => rfl); (case hr => exact zH81); intro gb273 hg w3 hbox hb; have n_ := zA_ (za (zu zG58 hb)) (zA_ (za (hbox)) (zA_ (zN1 w.heap.size hg (zv zG58)) (zN1 w.heap.size hg (zv zG58)))); clear HB; obtain ⟨HB, BK273, GW273, GE273⟩ := n_; clear hb hbox hg)); try go_wp2_with (first | ((with_reducible refine gate_dst (N := 3) rfl ?_); refine box_event ?hg (N := 3) ?hd (cs := (zl5 a1_0 a1_1 a1_2 a1_3 a1_4)) (t := 38) ?hr ?_; (case hd => rfl); (case hg => rfl); (case hr => exact zH81); intro gb273 hg w3 hbox hb; have n_ := zA_ (za (zu zG58 hb)) (zA_ (za (hbox)) (zA_ (zN1 w.heap.size hg (zv zG58)) (zN1 w.heap.size hg (zv zG58)))); clear HB; obtain ⟨HB, BK273, GW273, GE273⟩ := n_; clear hb hbox hg)))
 go_loopg [5] k (fun kq v5 w' => ∃ (x5_1 : Int), v5 = .int .i64 x5_1 ∧ Aside0 (laws_units.l0 kq l0 x5_1 a1_0 a1_1 a1_2 a1_3 a1_4 = some r) ∧ Aside0 (kq ≤ k) ∧ Aside0 (w'.heap[gb273]? = some (.cells (zl5 a1_0 a1_1 a1_2 a1_3 a1_4) 38 (0, 0))) ∧ Aside0 (Below w.heap.size w w'))
 case atStart => exact ⟨(0), zG68, H', ⟨Nat.le_refl _⟩, ⟨zH63⟩, ⟨zH47⟩⟩
 case round =>
  clear H'
  obtain ⟨x5_1, rfl, HA, HK1, BK273, HB⟩ := hrel
  cases gk with
  | zero => exact absurd HA.out (by simp [laws_units.l0])
  | succ k1 =>
   have H := HA.out
   clear HA
   simp only [laws_units.l0] at H
   by_cases c4 : x5_1 < (l0.length : Int)
   rotate_left
   ·rw [if_neg c4] at H
    have c4b0 := decide_eq_false c4
    clear c4
    obtain rfl := Option.some.inj H
    go_wp2
    repeat (go_quiet (fail); try go_wp2)
    go_ret
    exact zH21

   rw [if_pos c4] at H
   have c4b0 := decide_eq_true c4
   clear c4
   by_cases c5 : 0 ≤ x5_1
   rotate_left
   ·rw [if_neg c5] at H
    exact absurd H (by simp)
   rw [if_pos c5] at H
   have c5b0 := decide_eq_true c5
   clear c5
   by_cases c6 : ((rd_T38 l0 x5_1).f0).toList = a1_0.toList
   rotate_left
   ·rw [if_neg c6] at H
    have c6b0 : (((rd_T38 l0 x5_1).f0).toList == a1_0.toList) = false := beq_eq_false_iff_ne.mpr c6
    have c6b1 : (((rd_T38 l0 x5_1).f0).toList != a1_0.toList) = true := bne_iff_ne.mpr c6
    have H' := za H
    clear H
    have p274 : 0 ≤ (x5_1 : Int) := zO
    have q274 : x5_1 < (l0.length : Int) := zO
    obtain ⟨ad274, e274, hx274_0, hx274_1, hx274_2, hx274_3, hx274_4⟩ := at_T38 HR0.out x5_1 p274 q274
    cases e274
    replace hx274_0 := (HB.out.cell (zo w _ hx274_0)).trans hx274_0
    replace hx274_1 := (HB.out.cell (zo w _ hx274_1)).trans hx274_1
    replace hx274_2 := (HB.out.cell (zo w _ hx274_2)).trans hx274_2
    replace hx274_3 := (HB.out.cell (zo w _ hx274_3)).trans hx274_3
    replace hx274_4 := (HB.out.cell (zo w _ hx274_4)).trans hx274_4
    replace p274 := eq_true p274
    replace q274 := eq_true q274
    have hcz10_0 : wr.cell? ⟨gb273, 0, none⟩ = some (.string a1_0) := (q7a BK273.out 0).trans rfl
    have hcz10_1 : wr.cell? ⟨gb273, 1, none⟩ = some (.int .i64 a1_1) := (q7a BK273.out 1).trans rfl
    have hcz10_2 : wr.cell? ⟨gb273, 2, none⟩ = some (.int .i64 a1_2) := (q7a BK273.out 2).trans rfl
    have hcz10_3 : wr.cell? ⟨gb273, 3, none⟩ = some (.int .i64 a1_3) := (q7a BK273.out 3).trans rfl
    have hcz10_4 : wr.cell? ⟨gb273, 4, none⟩ = some (.bool a1_4) := (q7a BK273.out 4).trans rfl
    have hfz10_0 := zd BK273.out 0
    have hfz10_1 := zd BK273.out 1
    have hfz10_2 := zd BK273.out 2
    have hfz10_3 := zd BK273.out 3
    have hfz10_4 := zd BK273.out 4
    go_wp2
    repeat (go_quiet (fail); try go_wp2)
    go_roundg k1
    case measure => have := HK1.out; omega
    case rel => exact ⟨(wrap64 (x5_1 + 1)), zG68, H', ⟨by have := HK1.out; omega⟩, ⟨zH63⟩, ⟨zH47⟩⟩
   rw [if_pos c6] at H
   have c6b0 : (((rd_T38 l0 x5_1).f0).toList == a1_0.toList) = true := beq_iff_eq.mpr c6
   have c6b1 : (((rd_T38 l0 x5_1).f0).toList != a1_0.toList) = false := bne_eq_false_iff_eq.mpr c6
   clear c6
   by_cases c7 : ((rd_T38 l0 x5_1).f1) = a1_1
   rotate_left
   ·rw [if_neg c7] at H
    have c7b0 : (((rd_T38 l0 x5_1).f1) == a1_1) = false := beq_eq_false_iff_ne.mpr c7
    have c7b1 : (((rd_T38 l0 x5_1).f1) != a1_1) = true := bne_iff_ne.mpr c7
    have H' := za H
    clear H
    have p274 : 0 ≤ (x5_1 : Int) := zO
    have q274 : x5_1 < (l0.length : Int) := zO
    obtain ⟨ad274, e274, hx274_0, hx274_1, hx274_2, hx274_3, hx274_4⟩ := at_T38 HR0.out x5_1 p274 q274
    cases e274
    replace hx274_0 := (HB.out.cell (zo w _ hx274_0)).trans hx274_0
    replace hx274_1 := (HB.out.cell (zo w _ hx274_1)).trans hx274_1
    replace hx274_2 := (HB.out.cell (zo w _ hx274_2)).trans hx274_2
    replace hx274_3 := (HB.out.cell (zo w _ hx274_3)).trans hx274_3
    replace hx274_4 := (HB.out.cell (zo w _ hx274_4)).trans hx274_4
    replace p274 := eq_true p274
    replace q274 := eq_true q274
    have hcz9_0 : wr.cell? ⟨gb273, 0, none⟩ = some (.string a1_0) := (q7a BK273.out 0).trans rfl
    have hcz9_1 : wr.cell? ⟨gb273, 1, none⟩ = some (.int .i64 a1_1) := (q7a BK273.out 1).trans rfl
    have hcz9_2 : wr.cell? ⟨gb273, 2, none⟩ = some (.int .i64 a1_2) := (q7a BK273.out 2).trans rfl
    have hcz9_3 : wr.cell? ⟨gb273, 3, none⟩ = some (.int .i64 a1_3) := (q7a BK273.out 3).trans rfl
    have hcz9_4 : wr.cell? ⟨gb273, 4, none⟩ = some (.bool a1_4) := (q7a BK273.out 4).trans rfl
    have hfz9_0 := zd BK273.out 0
    have hfz9_1 := zd BK273.out 1
    have hfz9_2 := zd BK273.out 2
    have hfz9_3 := zd BK273.out 3
    have hfz9_4 := zd BK273.out 4
    have p275 : 0 ≤ (x5_1 : Int) := zO
    have q275 : x5_1 < (l0.length : Int) := zO
    obtain ⟨ad275, e275, hx275_0, hx275_1, hx275_2, hx275_3, hx275_4⟩ := at_T38 HR0.out x5_1 p275 q275
    obtain rfl : ad274 = ad275 := (by injection e275)
    replace hx275_0 := (HB.out.cell (zo w _ hx275_0)).trans hx275_0
    replace hx275_1 := (HB.out.cell (zo w _ hx275_1)).trans hx275_1
    replace hx275_2 := (HB.out.cell (zo w _ hx275_2)).trans hx275_2
    replace hx275_3 := (HB.out.cell (zo w _ hx275_3)).trans hx275_3
    replace hx275_4 := (HB.out.cell (zo w _ hx275_4)).trans hx275_4
    replace p275 := eq_true p275
    replace q275 := eq_true q275
    go_wp2
    repeat (go_quiet (fail); try go_wp2)
    go_roundg k1
    case measure => have := HK1.out; omega
    case rel => exact ⟨(wrap64 (x5_1 + 1)), zG68, H', ⟨by have := HK1.out; omega⟩, ⟨zH63⟩, ⟨zH47⟩⟩
   rw [if_pos c7] at H
   have c7b0 : (((rd_T38 l0 x5_1).f1) == a1_1) = true := beq_iff_eq.mpr c7
   have c7b1 : (((rd_T38 l0 x5_1).f1) != a1_1) = false := bne_eq_false_iff_eq.mpr c7
   clear c7
   obtain rfl := Option.some.inj H
   have p274 : 0 ≤ (x5_1 : Int) := zO
   have q274 : x5_1 < (l0.length : Int) := zO
   obtain ⟨ad274, e274, hx274_0, hx274_1, hx274_2, hx274_3, hx274_4⟩ := at_T38 HR0.out x5_1 p274 q274
   cases e274
   replace hx274_0 := (HB.out.cell (zo w _ hx274_0)).trans hx274_0
   replace hx274_1 := (HB.out.cell (zo w _ hx274_1)).trans hx274_1
   replace hx274_2 := (HB.out.cell (zo w _ hx274_2)).trans hx274_2
   replace hx274_3 := (HB.out.cell (zo w _ hx274_3)).trans hx274_3
   replace hx274_4 := (HB.out.cell (zo w _ hx274_4)).trans hx274_4
   replace p274 := eq_true p274
   replace q274 := eq_true q274
   have hcz8_0 : wr.cell? ⟨gb273, 0, none⟩ = some (.string a1_0) := (q7a BK273.out 0).trans rfl
   have hcz8_1 : wr.cell? ⟨gb273, 1, none⟩ = some (.int .i64 a1_1) := (q7a BK273.out 1).trans rfl
   have hcz8_2 : wr.cell? ⟨gb273, 2, none⟩ = some (.int .i64 a1_2) := (q7a BK273.out 2).trans rfl
   have hcz8_3 : wr.cell? ⟨gb273, 3, none⟩ = some (.int .i64 a1_3) := (q7a BK273.out 3).trans rfl
   have hcz8_4 : wr.cell? ⟨gb273, 4, none⟩ = some (.bool a1_4) := (q7a BK273.out 4).trans rfl
   have hfz8_0 := zd BK273.out 0
   have hfz8_1 := zd BK273.out 1
   have hfz8_2 := zd BK273.out 2
   have hfz8_3 := zd BK273.out 3
   have hfz8_4 := zd BK273.out 4
   have p275 : 0 ≤ (x5_1 : Int) := zO
   have q275 : x5_1 < (l0.length : Int) := zO
   obtain ⟨ad275, e275, hx275_0, hx275_1, hx275_2, hx275_3, hx275_4⟩ := at_T38 HR0.out x5_1 p275 q275
   obtain rfl : ad274 = ad275 := (by injection e275)
   replace hx275_0 := (HB.out.cell (zo w _ hx275_0)).trans hx275_0
   replace hx275_1 := (HB.out.cell (zo w _ hx275_1)).trans hx275_1
   replace hx275_2 := (HB.out.cell (zo w _ hx275_2)).trans hx275_2
   replace hx275_3 := (HB.out.cell (zo w _ hx275_3)).trans hx275_3
   replace hx275_4 := (HB.out.cell (zo w _ hx275_4)).trans hx275_4
   replace p275 := eq_true p275
   replace q275 := eq_true q275
   have p276 : 0 ≤ (x5_1 : Int) := zO
   have q276 : x5_1 < (l0.length : Int) := zO
   obtain ⟨ad276, e276, hx276_0, hx276_1, hx276_2, hx276_3, hx276_4⟩ := at_T38 HR0.out x5_1 p276 q276
   obtain rfl : ad274 = ad276 := (by injection e276)
   replace hx276_0 := (HB.out.cell (zo w _ hx276_0)).trans hx276_0
   replace hx276_1 := (HB.out.cell (zo w _ hx276_1)).trans hx276_1
   replace hx276_2 := (HB.out.cell (zo w _ hx276_2)).trans hx276_2
   replace hx276_3 := (HB.out.cell (zo w _ hx276_3)).trans hx276_3
   replace hx276_4 := (HB.out.cell (zo w _ hx276_4)).trans hx276_4
   replace p276 := eq_true p276
   replace q276 := eq_true q276
   go_wp2
   repeat (go_quiet (fail); try go_wp2)
   go_ret
   exact zH21
end Go.Proofs.Ytnkceaibkfbeaaa.F
