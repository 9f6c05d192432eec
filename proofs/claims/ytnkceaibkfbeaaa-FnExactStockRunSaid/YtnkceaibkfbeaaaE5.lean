-- squeezed
-- made by pp.py (wip/tools) out of the translation; Lean checks it
import Derived.Test.YtnkceaibkfbeaaaE0
import Derived.Test.YtnkceaibkfbeaaaE1
import Derived.Test.YtnkceaibkfbeaaaE4
namespace Go.Proofs.Ytnkceaibkfbeaaa.E
open Go.RowKit Go.Proofs.YtnkceaibkfbeaaaW.PrintWords Go.Proofs.YtnkceaibkfbeaaaW.PrintLast Go.Proofs.YtnkceaibkfbeaaaW.PrintMore
attribute [local go_sem] max2_int min2_int max_two min_two max_three min_three max_four min_four   -- for this text's walks alone
set_option linter.unusedVariables false
set_option linter.unusedSimpArgs false

abbrev q5a := @blk_cell
/-! ### impl_StockRun: function 7 -/
def impl_StockRun.l0 : Nat → List (S36) → List (S34) → Int → Int → Int → Int → Int → Int → Int → List (S38) → Option ((List (S36)) × Int × Int × Int × Int × Int × (List (S38)) × Int)
 | 0, _, _, _, _, _, _, _, _, _, _ => none
 | k + 1, x6, x21, x22, x23, x142000, x142001, x142002, x142003, x142004, x142005 => if x23 < x22 then (if 0 ≤ x23 then (if x23 < (x21.length : Int) then ((impl_Stock_do.f k x142000 x142001 x142002 x142003 x142004 x142005 ((rd_T34 x21 x23).f0) ((rd_T34 x21 x23).f1) ((rd_T34 x21 x23).f2) ((rd_T34 x21 x23).f3) ((rd_T34 x21 x23).f4)).bind fun bt144 => (if x6.length < 8796093022208 then (impl_StockRun.l0 k (x6 ++ [(⟨bt144.1, bt144.2.1⟩ : S36)]) x21 x22 (wrap64 (x23 + 1)) bt144.2.2.1 bt144.2.2.2.1 bt144.2.2.2.2.1 bt144.2.2.2.2.2.1 bt144.2.2.2.2.2.2.1 bt144.2.2.2.2.2.2.2) else (none))) else (none)) else (none)) else (some (x6, x142000, x142001, x142002, x142003, x142004, x142005, 0))
def impl_StockRun.f (k : Nat) (l0 : List (S34)) : Option ((List (S36)) × Int × Int × Int × Int × Int × (List (S38)) × Int) := (impl_StockAct.f l0).bind fun t137 => (if t137 = true then (if (l0.length : Int) > 200 then (some (([] : List (S36)), 0, 0, 0, 0, 0, ([] : List (S38)), 9)) else (impl_StockRun.l0 k (([] : List (S36))) l0 (l0.length : Int) 0 0 0 0 0 0 ([] : List (S38)))) else (some (([] : List (S36)), 0, 0, 0, 0, 0, ([] : List (S38)), 2)))
theorem impl_StockRun.mono_l : ∀ k, (∀ y0 y1 y2 y3 y4 y5 y6 y7 y8 y9, LeO (impl_StockRun.l0 k y0 y1 y2 y3 y4 y5 y6 y7 y8 y9) (impl_StockRun.l0 (k + 1) y0 y1 y2 y3 y4 y5 y6 y7 y8 y9))
 | 0 => fun _ _ _ _ _ _ _ _ _ _ r h => by simp [impl_StockRun.l0] at h
 | k + 1 => by
  have ih0 := impl_StockRun.mono_l k
  ·intro y0 y1 y2 y3 y4 y5 y6 y7 y8 y9
   unfold impl_StockRun.l0
   repeat' first
   | (with_reducible exact ih0 _ _ _ _ _ _ _ _ _ _)
   | (with_reducible exact impl_Stock_do.mono _ _ _ _ _ _ _ _ _ _ _ _)
   | (with_reducible exact LeO.refl _)
   | (with_reducible exact LeO.none _)
   | (with_reducible refine LeO.ite ?_ ?_)
   | (with_reducible refine LeO.bind ?_ (fun _ => ?_))
   | exact ih0 _ _ _ _ _ _ _ _ _ _
   | exact impl_Stock_do.mono _ _ _ _ _ _ _ _ _ _ _ _
   | exact LeO.none _
   | refine LeO.ite ?_ ?_
   | refine LeO.bind ?_ (fun _ => ?_)
theorem impl_StockRun.mono : ∀ a0 k, LeO (impl_StockRun.f k a0) (impl_StockRun.f (k + 1) a0) := by
 intro a0 k
 have ih0 := impl_StockRun.mono_l k
 unfold impl_StockRun.f
 repeat' first
   | (with_reducible exact ih0 _ _ _ _ _ _ _ _ _ _)
   | (with_reducible exact impl_Stock_do.mono _ _ _ _ _ _ _ _ _ _ _ _)
   | (with_reducible exact LeO.refl _)
   | (with_reducible exact LeO.none _)
   | (with_reducible refine LeO.ite ?_ ?_)
   | (with_reducible refine LeO.bind ?_ (fun _ => ?_))
   | exact ih0 _ _ _ _ _ _ _ _ _ _
   | exact impl_Stock_do.mono _ _ _ _ _ _ _ _ _ _ _ _
   | exact LeO.none _
   | refine LeO.ite ?_ ?_
   | refine LeO.bind ?_ (fun _ => ?_)
set_option maxHeartbeats 64000000 in
set_option maxRecDepth 100000 in
theorem impl_StockRun.calls (k : Nat) (A0 : Option Addr) (c0 : Nat) (l0 : List (S34)) (r1 : List (S36)) (r2 : Int) (r3 : Int) (r4 : Int) (r5 : Int) (r6 : Int) (r7 : List (S38)) (r8 : Int) (w : World) (hr0 : Kd.C k34 w A0 l0.length l0) (hc0 : l0.length ≤ c0) (h : impl_StockRun.f k l0 = some (r1, r2, r3, r4, r5, r6, r7, r8)) :
  Calls Try.prog 7 #[.slice A0 l0.length c0] w fun e w' => ∃ v0_ v6_ : Value, e = .returned (.tuple #[v0_, .agg (zs6 r2 r3 r4 r5 r6 v6_), .int .i64 r8]) ∧ Kd.R k36 36 w' w.heap.size (fun _ => True) v0_ r1 ∧ Kd.R k38 38 w' w.heap.size (fun _ => True) v6_ r7 ∧ Below w.heap.size w w' := by
 have hu29 := Try.underlying29
 have hu34 := Try.underlying34
 obtain ⟨HR0, HC0, HB⟩ := zD3 hr0 hc0 (Below.refl w.heap.size w)
 clear hr0 hc0
 have H : ((impl_StockAct.f l0).bind fun t137 => (if t137 = true then (if (l0.length : Int) > 200 then (some (([] : List (S36)), 0, 0, 0, 0, 0, ([] : List (S38)), 9)) else (impl_StockRun.l0 k (([] : List (S36))) l0 (l0.length : Int) 0 0 0 0 0 0 ([] : List (S38)))) else (some (([] : List (S36)), 0, 0, 0, 0, 0, ([] : List (S38)), 2)))) = some (r1, r2, r3, r4, r5, r6, r7, r8) := h
 clear h
 replace H := Option.bind_eq_some_iff.mp H
 obtain ⟨t137, A20, H⟩ := H
 replace H : (if t137 = true then (if (l0.length : Int) > 200 then (some (([] : List (S36)), 0, 0, 0, 0, 0, ([] : List (S38)), 9)) else (impl_StockRun.l0 k (([] : List (S36))) l0 (l0.length : Int) 0 0 0 0 0 0 ([] : List (S38)))) else (some (([] : List (S36)), 0, 0, 0, 0, 0, ([] : List (S38)), 2))) = some (r1, r2, r3, r4, r5, r6, r7, r8) := H
 have A2 := za A20
 clear A20
 by_cases c3 : t137 = true
 rotate_left
 ·replace c3 := Bool.eq_false_iff.mpr c3
  subst c3
  have H1 : (some (([] : List (S36)), 0, 0, 0, 0, 0, ([] : List (S38)), 2)) = some (r1, r2, r3, r4, r5, r6, r7, r8) := by rw [if_neg (show ¬ (false = true) by decide)] at H; exact H
  clear H
  have H := H1
  clear H1
  simp only [Option.some.injEq, Prod.mk.injEq] at H
  obtain ⟨rfl, rfl, rfl, rfl, rfl, rfl, rfl, rfl⟩ := H
  go_enter Try.func7, Try.ntmps7
  go_wp2_with (first | ((with_reducible refine gate_dst (N := 3) rfl ?_); refine box_event ?hg (N := 3) ?hd (cs := (zs6 0 0 0 0 0 (.slice none 0 0))) (t := 29) ?hr ?_; (case hd => rfl); (case hg => rfl); (case hr => exact zH83); intro gb136 hg w37 hbox hb; have n_ := zA_ (za (zr zG60 hb)) (zA_ (za (hbox)) (zA_ (zN1 w.heap.size hg (zp zG60)) (zN1 w.heap.size hg (zp zG60)))); clear HB; obtain ⟨HB, BK136, GW136, GE136⟩ := n_; clear hb hbox hg) | ((with_reducible refine gate_callee (f := 23) rfl ?_); refine goesL_ (some 11) rfl rfl Try.func23 zG83 rfl #[.slice A0 l0.length c0] rfl zG54 ?_; (with_reducible refine (impl_StockAct.calls _ _ l0 false _ ?side1 ?side2 A2.out).mono ?_); (case side1 => exact zH40); (case side2 => exact HC0.out); rintro e w' ⟨rfl, ⟨nd, rfl⟩⟩; refine ⟨_, rfl, ?_⟩; (try (rw [drewN_self w37]; generalize hq_ : World.drewN w37 _ = w37; have n0_ : Aside0 (w37.heap[gb136]? = some (.cells (zs6 0 0 0 0 0 (.slice none 0 0)) 29 (0, 0))) := ⟨zH47⟩; have n1_ : Aside0 (Below w.heap.size w w37) := ⟨zH28⟩; clear BK136 HB hq_; have BK136 := n0_; have HB := n1_; clear n0_ n1_)); (try have hcu38_0 : w37.cell? ⟨gb136, 0, none⟩ = some (.int .i64 0) := (q5a BK136.out 0).trans rfl); (try have hcu38_1 : w37.cell? ⟨gb136, 1, none⟩ = some (.int .i64 0) := (q5a BK136.out 1).trans rfl); (try have hcu38_2 : w37.cell? ⟨gb136, 2, none⟩ = some (.int .i64 0) := (q5a BK136.out 2).trans rfl); (try have hcu38_3 : w37.cell? ⟨gb136, 3, none⟩ = some (.int .i64 0) := (q5a BK136.out 3).trans rfl); (try have hcu38_4 : w37.cell? ⟨gb136, 4, none⟩ = some (.int .i64 0) := (q5a BK136.out 4).trans rfl); (try have hcu38_5 : w37.cell? ⟨gb136, 5, none⟩ = some (.slice none 0 0) := (q5a BK136.out 5).trans rfl); (try have hfcu38_0 := zc BK136.out 0); (try have hfcu38_1 := zc BK136.out 1); (try have hfcu38_2 := zc BK136.out 2); (try have hfcu38_3 := zc BK136.out 3); (try have hfcu38_4 := zc BK136.out 4); (try have hfcu38_5 := zc BK136.out 5); have hcz39_0 : w37.cell? ⟨gb136, 0, none⟩ = some (.int .i64 0) := (q5a BK136.out 0).trans rfl; have hcz39_1 : w37.cell? ⟨gb136, 1, none⟩ = some (.int .i64 0) := (q5a BK136.out 1).trans rfl; have hcz39_2 : w37.cell? ⟨gb136, 2, none⟩ = some (.int .i64 0) := (q5a BK136.out 2).trans rfl; have hcz39_3 : w37.cell? ⟨gb136, 3, none⟩ = some (.int .i64 0) := (q5a BK136.out 3).trans rfl; have hcz39_4 : w37.cell? ⟨gb136, 4, none⟩ = some (.int .i64 0) := (q5a BK136.out 4).trans rfl; have hcz39_5 : w37.cell? ⟨gb136, 5, none⟩ = some (.slice none 0 0) := (q5a BK136.out 5).trans rfl; have hfz39_0 := zc BK136.out 0; have hfz39_1 := zc BK136.out 1; have hfz39_2 := zc BK136.out 2; have hfz39_3 := zc BK136.out 3; have hfz39_4 := zc BK136.out 4; have hfz39_5 := zc BK136.out 5))
  refine bodyPost_ret (results_list (rs := [.tmp 2, .cell 3 29, .tmp 4]) rfl (by simp) (.tmp (.cell gb136 29 (zs6 0 0 0 0 0 (.slice none 0 0)) (0, 0) _ rfl zK94 Try.underlying29 rfl zG83 (.tmp .nil)))) rfl ?_
  exact zH1

 subst c3
 have H1 : (if (l0.length : Int) > 200 then (some (([] : List (S36)), 0, 0, 0, 0, 0, ([] : List (S38)), 9)) else (impl_StockRun.l0 k (([] : List (S36))) l0 (l0.length : Int) 0 0 0 0 0 0 ([] : List (S38)))) = some (r1, r2, r3, r4, r5, r6, r7, r8) := by rw [if_pos rfl] at H; exact H
 clear H
 have H := H1
 clear H1
 by_cases c4 : (l0.length : Int) > 200
 ·rw [if_pos c4] at H
  have c4b0 : decide (200 < (l0.length : Int)) = true := decide_eq_true c4
  have c4b1 : decide (200 < l0.length) = true := decide_eq_true (by omega)
  clear c4
  simp only [Option.some.injEq, Prod.mk.injEq] at H
  obtain ⟨rfl, rfl, rfl, rfl, rfl, rfl, rfl, rfl⟩ := H
  go_enter Try.func7, Try.ntmps7
  go_wp2_with (first | ((with_reducible refine gate_dst (N := 3) rfl ?_); refine box_event ?hg (N := 3) ?hd (cs := (zs6 0 0 0 0 0 (.slice none 0 0))) (t := 29) ?hr ?_; (case hd => rfl); (case hg => rfl); (case hr => exact zH83); intro gb136 hg w5 hbox hb; have n_ := zA_ (za (zr zG60 hb)) (zA_ (za (hbox)) (zA_ (zN1 w.heap.size hg (zp zG60)) (zN1 w.heap.size hg (zp zG60)))); clear HB; obtain ⟨HB, BK136, GW136, GE136⟩ := n_; clear hb hbox hg) | ((with_reducible refine gate_callee (f := 23) rfl ?_); refine goesL_ (some 11) rfl rfl Try.func23 zG83 rfl #[.slice A0 l0.length c0] rfl zG54 ?_; (with_reducible refine (impl_StockAct.calls _ _ l0 true _ ?side1 ?side2 A2.out).mono ?_); (case side1 => exact zH40); (case side2 => exact HC0.out); rintro e w' ⟨rfl, ⟨nd, rfl⟩⟩; refine ⟨_, rfl, ?_⟩; (try (rw [drewN_self w5]; generalize hq_ : World.drewN w5 _ = w5; have n0_ : Aside0 (w5.heap[gb136]? = some (.cells (zs6 0 0 0 0 0 (.slice none 0 0)) 29 (0, 0))) := ⟨zH47⟩; have n1_ : Aside0 (Below w.heap.size w w5) := ⟨zH28⟩; clear BK136 HB hq_; have BK136 := n0_; have HB := n1_; clear n0_ n1_)); (try have hcu6_0 : w5.cell? ⟨gb136, 0, none⟩ = some (.int .i64 0) := (q5a BK136.out 0).trans rfl); (try have hcu6_1 : w5.cell? ⟨gb136, 1, none⟩ = some (.int .i64 0) := (q5a BK136.out 1).trans rfl); (try have hcu6_2 : w5.cell? ⟨gb136, 2, none⟩ = some (.int .i64 0) := (q5a BK136.out 2).trans rfl); (try have hcu6_3 : w5.cell? ⟨gb136, 3, none⟩ = some (.int .i64 0) := (q5a BK136.out 3).trans rfl); (try have hcu6_4 : w5.cell? ⟨gb136, 4, none⟩ = some (.int .i64 0) := (q5a BK136.out 4).trans rfl); (try have hcu6_5 : w5.cell? ⟨gb136, 5, none⟩ = some (.slice none 0 0) := (q5a BK136.out 5).trans rfl); (try have hfcu6_0 := zc BK136.out 0); (try have hfcu6_1 := zc BK136.out 1); (try have hfcu6_2 := zc BK136.out 2); (try have hfcu6_3 := zc BK136.out 3); (try have hfcu6_4 := zc BK136.out 4); (try have hfcu6_5 := zc BK136.out 5); have hcz7_0 : w5.cell? ⟨gb136, 0, none⟩ = some (.int .i64 0) := (q5a BK136.out 0).trans rfl; have hcz7_1 : w5.cell? ⟨gb136, 1, none⟩ = some (.int .i64 0) := (q5a BK136.out 1).trans rfl; have hcz7_2 : w5.cell? ⟨gb136, 2, none⟩ = some (.int .i64 0) := (q5a BK136.out 2).trans rfl; have hcz7_3 : w5.cell? ⟨gb136, 3, none⟩ = some (.int .i64 0) := (q5a BK136.out 3).trans rfl; have hcz7_4 : w5.cell? ⟨gb136, 4, none⟩ = some (.int .i64 0) := (q5a BK136.out 4).trans rfl; have hcz7_5 : w5.cell? ⟨gb136, 5, none⟩ = some (.slice none 0 0) := (q5a BK136.out 5).trans rfl; have hfz7_0 := zc BK136.out 0; have hfz7_1 := zc BK136.out 1; have hfz7_2 := zc BK136.out 2; have hfz7_3 := zc BK136.out 3; have hfz7_4 := zc BK136.out 4; have hfz7_5 := zc BK136.out 5))
  refine bodyPost_ret (results_list (rs := [.tmp 2, .cell 3 29, .tmp 4]) rfl (by simp) (.tmp (.cell gb136 29 (zs6 0 0 0 0 0 (.slice none 0 0)) (0, 0) _ rfl zK94 Try.underlying29 rfl zG83 (.tmp .nil)))) rfl ?_
  exact zH1
 rw [if_neg c4] at H
 have c4b0 : decide (200 < (l0.length : Int)) = false := decide_eq_false c4
 have c4b1 : decide (200 < l0.length) = false := decide_eq_false (by omega)
 clear c4
 obtain ⟨y138, hy138⟩ : ∃ y_ : List (S36), y_ = (([] : List (S36))) := ⟨_, rfl⟩
 replace H : (impl_StockRun.l0 k y138 l0 (l0.length : Int) 0 0 0 0 0 0 ([] : List (S38))) = some (r1, r2, r3, r4, r5, r6, r7, r8) := by first | (rw [hy138]; with_reducible exact H) | (have H2_ := (Option.bind_some _ _).symm.trans H; rw [hy138]; with_reducible exact H2_) | (have H2_ := (Option.bind_some _ _).symm.trans H; with_reducible exact H2_) | with_reducible exact H | (rw [hy138]; exact H) | exact H
 have Ny138 := za hy138
 clear hy138
 have H' := za H
 clear H
 go_enter Try.func7, Try.ntmps7
 go_wp2_with (first | ((with_reducible refine gate_dst (N := 3) rfl ?_); refine box_event ?hg (N := 3) ?hd (cs := (zs6 0 0 0 0 0 (.slice none 0 0))) (t := 29) ?hr ?_; (case hd => rfl); (case hg => rfl); (case hr => exact zH83); intro gb136 hg w8 hbox hb; have n_ := zA_ (za (zr zG60 hb)) (zA_ (za (hbox)) (zA_ (zN1 w.heap.size hg (zp zG60)) (zN1 w.heap.size hg (zp zG60)))); clear HB; obtain ⟨HB, BK136, GW136, GE136⟩ := n_; clear hb hbox hg) | ((with_reducible refine gate_callee (f := 23) rfl ?_); refine goesL_ (some 11) rfl rfl Try.func23 zG83 rfl #[.slice A0 l0.length c0] rfl zG54 ?_; (with_reducible refine (impl_StockAct.calls _ _ l0 true _ ?side1 ?side2 A2.out).mono ?_); (case side1 => exact zH40); (case side2 => exact HC0.out); rintro e w' ⟨rfl, ⟨nd, rfl⟩⟩; refine ⟨_, rfl, ?_⟩; (try (rw [drewN_self w8]; generalize hq_ : World.drewN w8 _ = w8; have n0_ : Aside0 (w8.heap[gb136]? = some (.cells (zs6 0 0 0 0 0 (.slice none 0 0)) 29 (0, 0))) := ⟨zH47⟩; have n1_ : Aside0 (Below w.heap.size w w8) := ⟨zH28⟩; clear BK136 HB hq_; have BK136 := n0_; have HB := n1_; clear n0_ n1_)); (try have hcu9_0 : w8.cell? ⟨gb136, 0, none⟩ = some (.int .i64 0) := (q5a BK136.out 0).trans rfl); (try have hcu9_1 : w8.cell? ⟨gb136, 1, none⟩ = some (.int .i64 0) := (q5a BK136.out 1).trans rfl); (try have hcu9_2 : w8.cell? ⟨gb136, 2, none⟩ = some (.int .i64 0) := (q5a BK136.out 2).trans rfl); (try have hcu9_3 : w8.cell? ⟨gb136, 3, none⟩ = some (.int .i64 0) := (q5a BK136.out 3).trans rfl); (try have hcu9_4 : w8.cell? ⟨gb136, 4, none⟩ = some (.int .i64 0) := (q5a BK136.out 4).trans rfl); (try have hcu9_5 : w8.cell? ⟨gb136, 5, none⟩ = some (.slice none 0 0) := (q5a BK136.out 5).trans rfl); (try have hfcu9_0 := zc BK136.out 0); (try have hfcu9_1 := zc BK136.out 1); (try have hfcu9_2 := zc BK136.out 2); (try have hfcu9_3 := zc BK136.out 3); (try have hfcu9_4 := zc BK136.out 4); (try have hfcu9_5 := zc BK136.out 5)) | ((with_reducible refine gate_dst (N := 20) rfl ?_); refine Kd.R_lit k36 _ 36 ?hg (N := 20) ?hd (xs := ([] : List (S36))) (inner := []) (ok := fun _ => True) (okp := fun _ => True) ?hr ?hp (fun _ hk => hk) trivial (Below.refl _ _) (Nat.le_refl _) (by simp) ?_; (case hd => rfl); (case hg => rfl); (case hr => exact zH83); (case hp => exact (Reps.none _ _)); intro v139 w10 ho11 hb hg_ hnew_; clear hg_ hnew_; (first | rw [← Ny138.out] at ho11 | (simp only [Int.reduceToNat] at ho11; rw [← Ny138.out] at ho11)); have n_ := zA_ (za (zai ho11 (zp zK148))) (zA_ (za (zq (g := gb136) (o := .cells (zs6 0 0 0 0 0 (.slice none 0 0)) 29 (0, 0)) zK158 hb)) (za (zr zK148 hb))); clear BK136 HB; obtain ⟨HO140, BK136, HB⟩ := n_; clear hb ho11) | ((with_reducible refine gate_dst (N := 5) rfl ?_); refine box_event ?hg (N := 5) ?hd (cs := (zs6 0 0 0 0 0 (.slice none 0 0))) (t := 29) ?hr ?_; (case hd => rfl); (case hg => rfl); (case hr => exact zH83); intro gb141 hg w12 hbox hb; have n_ := zA_ (za (zo (by (with_reducible repeat (first | apply zk | apply zl | apply zn)); exact HO140.out) hb)) (zA_ (za (zq (g := gb136) (o := .cells (zs6 0 0 0 0 0 (.slice none 0 0)) 29 (0, 0)) zK158 hb)) (zA_ (za (zr zK148 hb)) (zA_ (za (hbox)) (zA_ (zN1 w.heap.size hg (zp zK148)) (zA_ (zN1 w.heap.size hg (zp zK148)) (zN2 hg (zv (g := gb136) (o := .cells (zs6 0 0 0 0 0 (.slice none 0 0)) 29 (0, 0)) zK158))))))); clear HO140 BK136 HB; obtain ⟨HO140, BK136, HB, BK141, GW141, GE141, NB136_141, NB141_136⟩ := n_; clear hb hbox hg; have hnb13 := NB141_136.out; have hnc13 := NB136_141.out; have hcz14_0 : w12.cell? ⟨gb141, 0, none⟩ = some (.int .i64 0) := (q5a BK141.out 0).trans rfl; have hcz14_1 : w12.cell? ⟨gb141, 1, none⟩ = some (.int .i64 0) := (q5a BK141.out 1).trans rfl; have hcz14_2 : w12.cell? ⟨gb141, 2, none⟩ = some (.int .i64 0) := (q5a BK141.out 2).trans rfl; have hcz14_3 : w12.cell? ⟨gb141, 3, none⟩ = some (.int .i64 0) := (q5a BK141.out 3).trans rfl; have hcz14_4 : w12.cell? ⟨gb141, 4, none⟩ = some (.int .i64 0) := (q5a BK141.out 4).trans rfl; have hcz14_5 : w12.cell? ⟨gb141, 5, none⟩ = some (.slice none 0 0) := (q5a BK141.out 5).trans rfl; have hfz14_0 := zc BK141.out 0; have hfz14_1 := zc BK141.out 1; have hfz14_2 := zc BK141.out 2; have hfz14_3 := zc BK141.out 3; have hfz14_4 := zc BK141.out 4; have hfz14_5 := zc BK141.out 5))
 go_loopg [6, 23] k (fun kq v6 v23 w' => ∃ (x6_1 : List (S36)) (x23_1 : Int) (x142000_1 : Int) (x142001_1 : Int) (x142002_1 : Int) (x142003_1 : Int) (x142004_1 : Int) (x142005_1 : List (S38)) (u142005 : Value), v23 = .int .i64 x23_1 ∧ Aside0 (impl_StockRun.l0 kq x6_1 l0 (l0.length : Int) x23_1 x142000_1 x142001_1 x142002_1 x142003_1 x142004_1 x142005_1 = some (r1, r2, r3, r4, r5, r6, r7, r8)) ∧ Aside0 (kq ≤ k) ∧ Aside0 (Kd.R k36 36 w' w.heap.size (fun _ => True) v6 x6_1) ∧ Aside0 (Kd.R k38 38 w' w.heap.size (fun _ => True) u142005 x142005_1) ∧ Aside0 (w'.heap[gb136]? = some (.cells (zs6 0 0 0 0 0 (.slice none 0 0)) 29 (0, 0))) ∧ Aside0 (w'.heap[gb141]? = some (.cells (zs6 x142000_1 x142001_1 x142002_1 x142003_1 x142004_1 u142005) 29 (0, 0))) ∧ Aside0 (Below w.heap.size w w'))
 case atStart => exact ⟨(y138), (0), (0), (0), (0), (0), (0), (([] : List (S38))), (.slice none 0 0), zG82, H', ⟨Nat.le_refl _⟩, ⟨by (with_reducible repeat (first | apply zk | apply zl | apply zn)); exact zs (zm (p := ⟨gb141, 5, none⟩) (zm (p := ⟨gb141, 4, none⟩) (zm (p := ⟨gb141, 3, none⟩) (zm (p := ⟨gb141, 2, none⟩) (zm (p := ⟨gb141, 1, none⟩) (zm (p := ⟨gb141, 0, none⟩) (zw HO140.out BK141.out zG84) (fun _ hk => hk.2) (.int .i64 0)) (fun _ hk => hk.2) (.int .i64 0)) (fun _ hk => hk.2) (.int .i64 0)) (fun _ hk => hk.2) (.int .i64 0)) (fun _ hk => hk.2) (.int .i64 0)) (fun _ hk => hk.2) (.slice none 0 0)) (fun _ hk => trivial)⟩, ⟨zH48⟩, ⟨by (with_reducible repeat (first | refine zf ?_ _ | refine zg ?_ | refine ze ?_ _)); refine zt ?_ NB136_141.out _; (with_reducible repeat (first | refine zf ?_ _ | refine zg ?_ | refine ze ?_ _)); refine zt ?_ NB136_141.out _; (with_reducible repeat (first | refine zf ?_ _ | refine zg ?_ | refine ze ?_ _)); refine zt ?_ NB136_141.out _; (with_reducible repeat (first | refine zf ?_ _ | refine zg ?_ | refine ze ?_ _)); refine zt ?_ NB136_141.out _; (with_reducible repeat (first | refine zf ?_ _ | refine zg ?_ | refine ze ?_ _)); refine zt ?_ NB136_141.out _; (with_reducible repeat (first | refine zf ?_ _ | refine zg ?_ | refine ze ?_ _)); refine zt ?_ NB136_141.out _; (with_reducible repeat (first | refine zf ?_ _ | refine zg ?_ | refine ze ?_ _)); exact BK136.out⟩, ⟨by (with_reducible repeat (first | refine zf ?_ _ | refine zg ?_ | refine ze ?_ _)); refine zu (cs := (zs6 0 0 0 0 0 (.slice none 0 0))) ?_ 5 _ rfl; (with_reducible repeat (first | refine zf ?_ _ | refine zg ?_ | refine ze ?_ _)); refine zu (cs := (zs6 0 0 0 0 0 (.slice none 0 0))) ?_ 4 _ rfl; (with_reducible repeat (first | refine zf ?_ _ | refine zg ?_ | refine ze ?_ _)); refine zu (cs := (zs6 0 0 0 0 0 (.slice none 0 0))) ?_ 3 _ rfl; (with_reducible repeat (first | refine zf ?_ _ | refine zg ?_ | refine ze ?_ _)); refine zu (cs := (zs6 0 0 0 0 0 (.slice none 0 0))) ?_ 2 _ rfl; (with_reducible repeat (first | refine zf ?_ _ | refine zg ?_ | refine ze ?_ _)); refine zu (cs := (zs6 0 0 0 0 0 (.slice none 0 0))) ?_ 1 _ rfl; (with_reducible repeat (first | refine zf ?_ _ | refine zg ?_ | refine ze ?_ _)); refine zu (cs := (zs6 0 0 0 0 0 (.slice none 0 0))) ?_ 0 _ rfl; (with_reducible repeat (first | refine zf ?_ _ | refine zg ?_ | refine ze ?_ _)); exact BK141.out⟩, ⟨zH20⟩⟩
 case round =>
  clear H'
  try clear c3
  try clear c4
  try clear c4b0
  try clear c4b1
  try clear hcz14_0
  try clear hcz14_1
  try clear hcz14_2
  try clear hcz14_3
  try clear hcz14_4
  try clear hcz14_5
  try clear hcz7_0
  try clear hcz7_1
  try clear hcz7_2
  try clear hcz7_3
  try clear hcz7_4
  try clear hcz7_5
  try clear hfz14_0
  try clear hfz14_1
  try clear hfz14_2
  try clear hfz14_3
  try clear hfz14_4
  try clear hfz14_5
  try clear hfz7_0
  try clear hfz7_1
  try clear hfz7_2
  try clear hfz7_3
  try clear hfz7_4
  try clear hfz7_5
  obtain ⟨x6_1, x23_1, x142000_1, x142001_1, x142002_1, x142003_1, x142004_1, x142005_1, u142005, rfl, HA, HK1, HO_6, HO_142005, BK136, BK141, HB⟩ := hrel
  cases gk with
  | zero => exact absurd HA.out (by simp [impl_StockRun.l0])
  | succ k1 =>
   have H := HA.out
   clear HA
   simp only [impl_StockRun.l0] at H
   by_cases c15 : x23_1 < (l0.length : Int)
   ·rw [if_pos c15] at H
    have c15b0 := decide_eq_true c15
    clear c15
    by_cases c16 : 0 ≤ x23_1
    rotate_left
    ·rw [if_neg c16] at H
     exact absurd H (by simp)
    rw [if_pos c16] at H
    have c16b0 := decide_eq_true c16
    clear c16
    by_cases c17 : x23_1 < (l0.length : Int)
    rotate_left
    ·rw [if_neg c17] at H
     exact absurd H (by simp)
    rw [if_pos c17] at H
    have c17b0 := decide_eq_true c17
    clear c17
    replace H := Option.bind_eq_some_iff.mp H
    obtain ⟨⟨t144, t145, t146, t147, t148, t149, t150, t151⟩, A180, H⟩ := H
    replace H : (if x6_1.length < 8796093022208 then (impl_StockRun.l0 k1 (x6_1 ++ [(⟨t144, t145⟩ : S36)]) l0 (l0.length : Int) (wrap64 (x23_1 + 1)) t146 t147 t148 t149 t150 t151) else (none)) = some (r1, r2, r3, r4, r5, r6, r7, r8) := H
    have A18 := za A180
    clear A180
    by_cases c19 : x6_1.length < 8796093022208
    rotate_left
    ·rw [if_neg c19] at H
     exact absurd H (by simp)
    rw [if_pos c19] at H
    have LMc19 := za c19
    clear c19
    obtain ⟨y154, hy154⟩ : ∃ y_ : List (S36), y_ = (x6_1 ++ [(⟨t144, t145⟩ : S36)]) := ⟨_, rfl⟩
    replace H : (impl_StockRun.l0 k1 y154 l0 (l0.length : Int) (wrap64 (x23_1 + 1)) t146 t147 t148 t149 t150 t151) = some (r1, r2, r3, r4, r5, r6, r7, r8) := by first | (rw [hy154]; with_reducible exact H) | (have H2_ := (Option.bind_some _ _).symm.trans H; rw [hy154]; with_reducible exact H2_) | (have H2_ := (Option.bind_some _ _).symm.trans H; with_reducible exact H2_) | with_reducible exact H | (rw [hy154]; exact H) | exact H
    have Ny154 := za hy154
    clear hy154
    have H' := za H
    clear H
    have p142 : 0 ≤ (x23_1 : Int) := zO
    have q142 : x23_1 < (l0.length : Int) := zO
    obtain ⟨ad142, e142, hx142_0, hx142_1, hx142_2, hx142_3, hx142_4⟩ := at_T34 HR0.out x23_1 p142 q142
    cases e142
    replace hx142_0 := (HB.out.cell (zb w _ hx142_0)).trans hx142_0
    replace hx142_1 := (HB.out.cell (zb w _ hx142_1)).trans hx142_1
    replace hx142_2 := (HB.out.cell (zb w _ hx142_2)).trans hx142_2
    replace hx142_3 := (HB.out.cell (zb w _ hx142_3)).trans hx142_3
    replace hx142_4 := (HB.out.cell (zb w _ hx142_4)).trans hx142_4
    replace p142 := eq_true p142
    replace q142 := eq_true q142
    go_wp2_with (first | ((with_reducible refine gate_dst (N := 8) rfl ?_); refine box_event ?hg (N := 8) ?hd (cs := (za5 0 (⟨#[]⟩ : ByteArray) 0 0 0)) (t := 34) ?hr ?_; (case hd => rfl); (case hg => rfl); (case hr => exact zH83); intro gb143 hg w20 hbox hb; have n_ := zA_ (za (zo zG74 hb)) (zA_ (za (zo (by (with_reducible repeat (first | apply zk | apply zl | apply zn)); exact HO_142005.out) hb)) (zA_ (za (zq (g := gb136) (o := .cells (zs6 0 0 0 0 0 (.slice none 0 0)) 29 (0, 0)) zK158 hb)) (zA_ (za (zq (g := gb141) (o := .cells (zs6 x142000_1 x142001_1 x142002_1 x142003_1 x142004_1 u142005) 29 (0, 0)) zK159 hb)) (zA_ (za (zr zK140 hb)) (zA_ (za (hbox)) (zA_ (zN1 w.heap.size hg (zp zK140)) (zA_ (zN1 w.heap.size hg (zp zK140)) (zN3 hg (zv (g := gb136) (o := .cells (zs6 0 0 0 0 0 (.slice none 0 0)) 29 (0, 0)) zK158) (zN2 hg (zv (g := gb141) (o := .cells (zs6 x142000_1 x142001_1 x142002_1 x142003_1 x142004_1 u142005) 29 (0, 0)) zK159)))))))))); clear HO_6 HO_142005 BK136 BK141 HB; obtain ⟨HO_6, HO_142005, BK136, BK141, HB, BK143, GW143, GE143, NB136_143, NB143_136, NB141_143, NB143_141⟩ := n_; clear hb hbox hg; have hnb21 := NB143_136.out; have hnc21 := NB136_143.out; have hnb22 := NB143_141.out; have hnc22 := NB141_143.out; have hcz23_0 : w20.cell? ⟨gb143, 0, none⟩ = some (.int .i64 0) := (q5a BK143.out 0).trans rfl; have hcz23_1 : w20.cell? ⟨gb143, 1, none⟩ = some (.string (⟨#[]⟩ : ByteArray)) := (q5a BK143.out 1).trans rfl; have hcz23_2 : w20.cell? ⟨gb143, 2, none⟩ = some (.int .i64 0) := (q5a BK143.out 2).trans rfl; have hcz23_3 : w20.cell? ⟨gb143, 3, none⟩ = some (.int .i64 0) := (q5a BK143.out 3).trans rfl; have hcz23_4 : w20.cell? ⟨gb143, 4, none⟩ = some (.int .i64 0) := (q5a BK143.out 4).trans rfl; have hfz23_0 := zc BK143.out 0; have hfz23_1 := zc BK143.out 1; have hfz23_2 := zc BK143.out 2; have hfz23_3 := zc BK143.out 3; have hfz23_4 := zc BK143.out 4) | ((with_reducible refine gate_store (t := 34) (p := 8) rfl ?_); refine store_event (t := 34) (p := 8) (v := ?vo_w24) (w1 := (((((w20.setCell ⟨gb143, 0, none⟩ (.int .i64 ((rd_T34 l0 x23_1).f0))).setCell ⟨gb143, 1, none⟩ (.string ((rd_T34 l0 x23_1).f1))).setCell ⟨gb143, 2, none⟩ (.int .i64 ((rd_T34 l0 x23_1).f2))).setCell ⟨gb143, 3, none⟩ (.int .i64 ((rd_T34 l0 x23_1).f3))).setCell ⟨gb143, 4, none⟩ (.int .i64 ((rd_T34 l0 x23_1).f4)))) ?hg ?ho ?hn ?hr ?_; (case ho => rfl); (case hg => rfl); (case hn => rfl); (case hr => exact zH83); intro w24 hw; have n0_ : Aside0 (Kd.R k36 36 w24 w.heap.size (fun _ => True) u6 x6_1) := ⟨(by rw [hw]; exact (by (with_reducible repeat (first | apply zk | apply zl | apply zn)); exact zs (zm (p := ⟨gb143, 4, none⟩) (zm (p := ⟨gb143, 3, none⟩) (zm (p := ⟨gb143, 2, none⟩) (zm (p := ⟨gb143, 1, none⟩) (zm (p := ⟨gb143, 0, none⟩) (zw HO_6.out BK143.out zG84) (fun _ hk => hk.2) (.int .i64 ((rd_T34 l0 x23_1).f0))) (fun _ hk => hk.2) (.string ((rd_T34 l0 x23_1).f1))) (fun _ hk => hk.2) (.int .i64 ((rd_T34 l0 x23_1).f2))) (fun _ hk => hk.2) (.int .i64 ((rd_T34 l0 x23_1).f3))) (fun _ hk => hk.2) (.int .i64 ((rd_T34 l0 x23_1).f4))) (fun _ hk => trivial)))⟩; have n1_ : Aside0 (Kd.R k38 38 w24 w.heap.size (fun _ => True) u142005 x142005_1) := ⟨(by rw [hw]; exact (by (with_reducible repeat (first | apply zk | apply zl | apply zn)); exact zs (zm (p := ⟨gb143, 4, none⟩) (zm (p := ⟨gb143, 3, none⟩) (zm (p := ⟨gb143, 2, none⟩) (zm (p := ⟨gb143, 1, none⟩) (zm (p := ⟨gb143, 0, none⟩) (zw HO_142005.out BK143.out zG84) (fun _ hk => hk.2) (.int .i64 ((rd_T34 l0 x23_1).f0))) (fun _ hk => hk.2) (.string ((rd_T34 l0 x23_1).f1))) (fun _ hk => hk.2) (.int .i64 ((rd_T34 l0 x23_1).f2))) (fun _ hk => hk.2) (.int .i64 ((rd_T34 l0 x23_1).f3))) (fun _ hk => hk.2) (.int .i64 ((rd_T34 l0 x23_1).f4))) (fun _ hk => trivial)))⟩; have n2_ : Aside0 (w24.heap[gb136]? = some (.cells (zs6 0 0 0 0 0 (.slice none 0 0)) 29 (0, 0))) := ⟨(by rw [hw]; exact (by (with_reducible repeat (first | refine zf ?_ _ | refine zg ?_ | refine ze ?_ _)); refine zt ?_ NB136_143.out _; (with_reducible repeat (first | refine zf ?_ _ | refine zg ?_ | refine ze ?_ _)); refine zt ?_ NB136_143.out _; (with_reducible repeat (first | refine zf ?_ _ | refine zg ?_ | refine ze ?_ _)); refine zt ?_ NB136_143.out _; (with_reducible repeat (first | refine zf ?_ _ | refine zg ?_ | refine ze ?_ _)); refine zt ?_ NB136_143.out _; (with_reducible repeat (first | refine zf ?_ _ | refine zg ?_ | refine ze ?_ _)); refine zt ?_ NB136_143.out _; (with_reducible repeat (first | refine zf ?_ _ | refine zg ?_ | refine ze ?_ _)); exact BK136.out))⟩; have n3_ : Aside0 (w24.heap[gb141]? = some (.cells (zs6 x142000_1 x142001_1 x142002_1 x142003_1 x142004_1 u142005) 29 (0, 0))) := ⟨(by rw [hw]; exact (by (with_reducible repeat (first | refine zf ?_ _ | refine zg ?_ | refine ze ?_ _)); refine zt ?_ NB141_143.out _; (with_reducible repeat (first | refine zf ?_ _ | refine zg ?_ | refine ze ?_ _)); refine zt ?_ NB141_143.out _; (with_reducible repeat (first | refine zf ?_ _ | refine zg ?_ | refine ze ?_ _)); refine zt ?_ NB141_143.out _; (with_reducible repeat (first | refine zf ?_ _ | refine zg ?_ | refine ze ?_ _)); refine zt ?_ NB141_143.out _; (with_reducible repeat (first | refine zf ?_ _ | refine zg ?_ | refine ze ?_ _)); refine zt ?_ NB141_143.out _; (with_reducible repeat (first | refine zf ?_ _ | refine zg ?_ | refine ze ?_ _)); exact BK141.out))⟩; have n4_ : Aside0 (w24.heap[gb143]? = some (.cells (za5 ((rd_T34 l0 x23_1).f0) ((rd_T34 l0 x23_1).f1) ((rd_T34 l0 x23_1).f2) ((rd_T34 l0 x23_1).f3) ((rd_T34 l0 x23_1).f4)) 34 (0, 0))) := ⟨(by rw [hw]; exact (by (with_reducible repeat (first | refine zf ?_ _ | refine zg ?_ | refine ze ?_ _)); refine zu (cs := (za5 ((rd_T34 l0 x23_1).f0) ((rd_T34 l0 x23_1).f1) ((rd_T34 l0 x23_1).f2) ((rd_T34 l0 x23_1).f3) 0)) ?_ 4 _ rfl; (with_reducible repeat (first | refine zf ?_ _ | refine zg ?_ | refine ze ?_ _)); refine zu (cs := (za5 ((rd_T34 l0 x23_1).f0) ((rd_T34 l0 x23_1).f1) ((rd_T34 l0 x23_1).f2) 0 0)) ?_ 3 _ rfl; (with_reducible repeat (first | refine zf ?_ _ | refine zg ?_ | refine ze ?_ _)); refine zu (cs := (za5 ((rd_T34 l0 x23_1).f0) ((rd_T34 l0 x23_1).f1) 0 0 0)) ?_ 2 _ rfl; (with_reducible repeat (first | refine zf ?_ _ | refine zg ?_ | refine ze ?_ _)); refine zu (cs := (za5 ((rd_T34 l0 x23_1).f0) (⟨#[]⟩ : ByteArray) 0 0 0)) ?_ 1 _ rfl; (with_reducible repeat (first | refine zf ?_ _ | refine zg ?_ | refine ze ?_ _)); refine zu (cs := (za5 0 (⟨#[]⟩ : ByteArray) 0 0 0)) ?_ 0 _ rfl; (with_reducible repeat (first | refine zf ?_ _ | refine zg ?_ | refine ze ?_ _)); exact BK143.out))⟩; have n5_ : Aside0 (Below w.heap.size w w24) := ⟨(by rw [hw]; exact zK133)⟩; clear hw HO_6; clear HO_142005 BK136; clear BK141 BK143 HB; have HO_6 := n0_; have HO_142005 := n1_; have BK136 := n2_; have BK141 := n3_; have BK143 := n4_; have HB := n5_; clear n0_ n1_ n2_ n3_ n4_ n5_; have hcz25_0 : w24.cell? ⟨gb143, 0, none⟩ = some (.int .i64 ((rd_T34 l0 x23_1).f0)) := (q5a BK143.out 0).trans rfl; have hcz25_1 : w24.cell? ⟨gb143, 1, none⟩ = some (.string ((rd_T34 l0 x23_1).f1)) := (q5a BK143.out 1).trans rfl; have hcz25_2 : w24.cell? ⟨gb143, 2, none⟩ = some (.int .i64 ((rd_T34 l0 x23_1).f2)) := (q5a BK143.out 2).trans rfl; have hcz25_3 : w24.cell? ⟨gb143, 3, none⟩ = some (.int .i64 ((rd_T34 l0 x23_1).f3)) := (q5a BK143.out 3).trans rfl; have hcz25_4 : w24.cell? ⟨gb143, 4, none⟩ = some (.int .i64 ((rd_T34 l0 x23_1).f4)) := (q5a BK143.out 4).trans rfl; have hfz25_0 := zc BK143.out 0; have hfz25_1 := zc BK143.out 1; have hfz25_2 := zc BK143.out 2; have hfz25_3 := zc BK143.out 3; have hfz25_4 := zc BK143.out 4; obtain ⟨Ao26, co26, eo26⟩ := zx HO_142005.out; subst eo26) | ((with_reducible refine gate_callee (f := 24) rfl ?_); refine goesL_ (some 29) rfl rfl Try.func24 zG83 rfl #[.pointer (some ⟨gb141, 0, none⟩), .agg (za5 ((rd_T34 l0 x23_1).f0) ((rd_T34 l0 x23_1).f1) ((rd_T34 l0 x23_1).f2) ((rd_T34 l0 x23_1).f3) ((rd_T34 l0 x23_1).f4))] rfl zG54 ?_; (with_reducible refine (impl_Stock_do.calls k1 gb141 x142000_1 x142001_1 x142002_1 x142003_1 x142004_1 (fun k_ => some k_ = (.slice Ao26 x142005_1.length co26 : Value).ownBlock) (.slice Ao26 x142005_1.length co26) x142005_1 ((rd_T34 l0 x23_1).f0) ((rd_T34 l0 x23_1).f1) ((rd_T34 l0 x23_1).f2) ((rd_T34 l0 x23_1).f3) ((rd_T34 l0 x23_1).f4) t144 t145 t146 t147 t148 t149 t150 t151 w _ ?side1 ?side2 ?side3 ?side4 A18.out).mono ?_); (case side1 => repeat (first | (with_reducible first | exact HB.out | apply zi | apply zd | apply zh | refine zj ?_ GE136.out | refine zj ?_ GE141.out | refine zj ?_ GE143.out) | exact HB.out)); (case side2 => exact zK159); (case side3 => exact GE141.out); (case side4 => exact zaj rfl HO_142005.out); rintro e w27 ⟨v152, rfl, ho0, hz0, hb, hkp⟩; refine ⟨_, rfl, ?_⟩; have n_ := zA_ (za (zs (ok' := fun k_ => True) (zac ((zw (zae HO_6.out (zaf HO_142005.out) zG84) BK141.out zG84)) hkp (fun k_ hk_ hs_ => Or.elim hs_ (fun hs_ => (hk_.1.2) hs_) (fun e_ => (hk_.2) e_))) (fun k_ hk_ => trivial))) (zA_ (za (zab zK158 hkp (fun hs_ => Or.elim hs_ (fun hs_ => (fun e_ => (zad HO_142005.out BK136.out zG84) e_) hs_) (fun e_ => NB136_141.out e_)))) (zA_ (za (hz0)) (zA_ (za (zab (by (with_reducible repeat (first | refine zf ?_ _ | refine zg ?_ | refine ze ?_ _)); exact BK143.out) hkp (fun hs_ => Or.elim hs_ (fun hs_ => (fun e_ => (zad HO_142005.out BK143.out zG84) e_) hs_) (fun e_ => NB143_141.out e_)))) (zA_ (za (zs (ok' := fun k_ => True) ho0 (fun k_ hk_ => trivial))) (za (hb)))))); clear HO_6 BK136 BK141 BK143 HB HO_142005; obtain ⟨HO_6, BK136, BK141, BK143, HO153, HB⟩ := n_; (try clear hb); (try clear hkp); (try clear ho0); (try clear hz0)) | ((with_reducible refine gate_builtin (b := .append) (xs := #[.tmp 27, .tmp 30]) rfl ?_); at_builtin; refine Kd.R_append k36 (w0 := w) w.heap.size rfl (.tmp 27) (.tmp 30) 26 36 (.agg #[(.int .i64 0), (.int .i64 0)]) 16 rfl Try.underlying26 info36 rfl zG84 (by omega) u6 x6_1 (⟨t144, t145⟩ : S36) [.int .i64 t144, .int .i64 t145] (fun _ => True) (fun _ => False) rfl rfl ?aP (fun _ hk => hk.elim) ?aF ?aO ?aB ?aS ?aL ?_; (case aP => exact k36_mkM _ _ _ (⟨t144, t145⟩ : S36)); (case aB => exact zK133); (case aF => exact (fun _ _ => trivial)); (case aO => exact zG74); (case aS => exact (zp zK133)); (case aL => have := LMc19.out; omega); intro v155 w28 ho hb hg hat; rw [← Ny154.out] at ho; have n_ := zA_ (za (zao (g := gb136) (o := .cells (zs6 0 0 0 0 0 (.slice none 0 0)) 29 (0, 0)) zK158 hg (zad HO_6.out BK136.out zG84))) (zA_ (za (zao (g := gb141) (o := .cells (zs6 t146 t147 t148 t149 t150 v152) 29 (0, 0)) zK159 hg (zad HO_6.out BK141.out zG84))) (zA_ (za (zao (g := gb143) (o := .cells (za5 ((rd_T34 l0 x23_1).f0) ((rd_T34 l0 x23_1).f1) ((rd_T34 l0 x23_1).f2) ((rd_T34 l0 x23_1).f3) ((rd_T34 l0 x23_1).f4)) 34 (0, 0)) (by (with_reducible repeat (first | refine zf ?_ _ | refine zg ?_ | refine ze ?_ _)); exact BK143.out) hg (zad HO_6.out BK143.out zG84))) (zA_ (za (Kd.R_over' (by (with_reducible repeat (first | apply zk | apply zl | apply zn)); exact HO153.out) (zaf zG74) zG84 hg)) (zA_ (za (hb)) (za (ho)))))); clear BK136 BK141 BK143 HO153 HB HO_6; obtain ⟨BK136, BK141, BK143, HO153, HB, HO156⟩ := n_; clear ho hb hg hat))
    go_roundg k1
    case measure => have := HK1.out; omega
    case rel => exact ⟨(y154), (wrap64 (x23_1 + 1)), (t146), (t147), (t148), (t149), (t150), (t151), (v152), zG82, H', ⟨zH88⟩, ⟨by (with_reducible repeat (first | apply zk | apply zl | apply zn)); exact HO156.out⟩, ⟨by (with_reducible repeat (first | apply zk | apply zl | apply zn)); exact HO153.out⟩, ⟨by (with_reducible repeat (first | refine zf ?_ _ | refine zg ?_ | refine ze ?_ _)); exact BK136.out⟩, ⟨by (with_reducible repeat (first | refine zf ?_ _ | refine zg ?_ | refine ze ?_ _)); exact BK141.out⟩, ⟨by repeat (first | (with_reducible first | exact HB.out | apply zi | apply zd | apply zh | refine zj ?_ GE136.out | refine zj ?_ GE141.out | refine zj ?_ GE143.out) | exact HB.out)⟩⟩
   rw [if_neg c15] at H
   have c15b0 := decide_eq_false c15
   clear c15
   simp only [Option.some.injEq, Prod.mk.injEq] at H
   obtain ⟨rfl, rfl, rfl, rfl, rfl, rfl, rfl, rfl⟩ := H
   try go_wp2
   obtain ⟨n0_, n1_, n2_, n3_, n4_⟩ := zD5 (zn HO_6.out) (zn HO_142005.out) (zg BK136.out) (zg BK141.out) (zh HB.out)
   clear HO_6 HO_142005 BK136 BK141 HB
   have HO_6 := n0_
   have HO_142005 := n1_
   have BK136 := n2_
   have BK141 := n3_
   have HB := n4_
   clear n0_ n1_ n2_ n3_ n4_
   obtain ⟨Ao35, co35, eo35⟩ := zx HO_142005.out
   (first | subst eo35 | (injection eo35 with f1_ f2_ f3_; have f4_ := f1_.symm; have f5_ := f3_.symm; clear f1_ f2_ f3_; subst f4_; subst f5_))
   refine start_ (n := 5) (S := fun w' => w'.cell? ⟨gb141, 0, none⟩ = some (.int .i64 x142000_1) ∧ w'.cell? ⟨gb141, 1, none⟩ = some (.int .i64 x142001_1) ∧ w'.cell? ⟨gb141, 2, none⟩ = some (.int .i64 x142002_1) ∧ w'.cell? ⟨gb141, 3, none⟩ = some (.int .i64 x142003_1) ∧ w'.cell? ⟨gb141, 4, none⟩ = some (.int .i64 x142004_1) ∧ w'.cell? ⟨gb141, 5, none⟩ = some (.slice Ao35 x142005_1.length co35)) (ds := []) #[false, false, false, false, false] zG83 rfl rfl ⟨(q5a BK141.out 0).trans rfl, (q5a BK141.out 1).trans rfl, (q5a BK141.out 2).trans rfl, (q5a BK141.out 3).trans rfl, (q5a BK141.out 4).trans rfl, (q5a BK141.out 5).trans rfl⟩ (fun hHeld => ?_)
   generalize wr.drew = w29 at HO_6 HO_142005 BK136 BK141 HB hHeld ⊢
   refine pure_ (i := 0) (N := some 33) (v := ?_) (a' := ?_) #[true, false, false, false, false] rfl rfl zG83 (fun _ _ _ h => h) (Or.inl ⟨by rfl, ?_⟩) ?_ ?_
   rotate_left
   ·intro w'
    go_simp
    with_reducible rfl
   rotate_left
   ·simp only [Act.put, List.setIfInBounds_toArray, List.set_cons_zero, List.set_cons_succ, i64_w, i32_w]
    rfl
   refine pure_ (i := 2) (N := some 2) (v := ?_) (a' := ?_) #[true, false, true, false, false] rfl rfl zG83 (fun _ _ _ h => h) (Or.inl ⟨by rfl, ?_⟩) ?_ ?_
   rotate_left
   ·intro w'
    go_simp
    with_reducible rfl
   rotate_left
   ·simp only [Act.put, List.setIfInBounds_toArray, List.set_cons_zero, List.set_cons_succ, i64_w, i32_w]
    rfl
   refine take_ (i := 1) (N := some 34) (v := ?_) (a' := ?_) #[true, true, true, false, false] rfl rfl zG83 (fun _ _ _ h => h) (Or.inl ⟨by rfl, ?_⟩) hHeld ?_ ?_
   rotate_left
   ·rintro w' ⟨s0, s1, s2, s3, s4, s5⟩
    go_simp
    with_reducible rfl
   rotate_left
   ·simp only [Act.put, List.setIfInBounds_toArray, List.set_cons_zero, List.set_cons_succ, i64_w, i32_w]
    rfl
   refine one_ (i := 3) (N := none) #[true, true, true, true, false] rfl rfl zG83 zG84 (fun K hK => ?_)
   have hs30 : w29.cell? ⟨gb136, 0, none⟩ = some (.int .i64 0) := (q5a BK136.out 0).trans rfl
   have hfs30 := zc BK136.out 0
   have hns30_1 := NB141_136.out
   have hms30_1 := NB136_141.out
   have hs31 : w29.cell? ⟨gb136, 1, none⟩ = some (.int .i64 0) := (q5a BK136.out 1).trans rfl
   have hfs31 := zc BK136.out 1
   have hns31_1 := NB141_136.out
   have hms31_1 := NB136_141.out
   have hs32 : w29.cell? ⟨gb136, 2, none⟩ = some (.int .i64 0) := (q5a BK136.out 2).trans rfl
   have hfs32 := zc BK136.out 2
   have hns32_1 := NB141_136.out
   have hms32_1 := NB136_141.out
   have hs33 : w29.cell? ⟨gb136, 3, none⟩ = some (.int .i64 0) := (q5a BK136.out 3).trans rfl
   have hfs33 := zc BK136.out 3
   have hns33_1 := NB141_136.out
   have hms33_1 := NB136_141.out
   have hs34 : w29.cell? ⟨gb136, 4, none⟩ = some (.int .i64 0) := (q5a BK136.out 4).trans rfl
   have hfs34 := zc BK136.out 4
   have hns34_1 := NB141_136.out
   have hms34_1 := NB136_141.out
   have hs36 : w29.cell? ⟨gb136, 5, none⟩ = some (.slice none 0 0) := (q5a BK136.out 5).trans rfl
   have hfs36 := zc BK136.out 5
   have hns36_1 := NB141_136.out
   have hms36_1 := NB136_141.out
   refine skip_ (w1 := ?_) (by rfl) rfl ?_ ?_
   rotate_left
   ·go_simp
    rfl
   refine hK.out _ _ ⟨((cell_far (p := ⟨gb136, _, none⟩) NB141_136.out _).trans (((cell_far (p := ⟨gb136, _, none⟩) NB141_136.out _).trans (((cell_far (p := ⟨gb136, _, none⟩) NB141_136.out _).trans (((cell_far (p := ⟨gb136, _, none⟩) NB141_136.out _).trans (((cell_far (p := ⟨gb136, _, none⟩) NB141_136.out _).trans (((cell_far (p := ⟨gb136, _, none⟩) NB141_136.out _).trans (hHeld.1)))))))))))), ((cell_far (p := ⟨gb136, _, none⟩) NB141_136.out _).trans (((cell_far (p := ⟨gb136, _, none⟩) NB141_136.out _).trans (((cell_far (p := ⟨gb136, _, none⟩) NB141_136.out _).trans (((cell_far (p := ⟨gb136, _, none⟩) NB141_136.out _).trans (((cell_far (p := ⟨gb136, _, none⟩) NB141_136.out _).trans (((cell_far (p := ⟨gb136, _, none⟩) NB141_136.out _).trans (hHeld.2.1)))))))))))), ((cell_far (p := ⟨gb136, _, none⟩) NB141_136.out _).trans (((cell_far (p := ⟨gb136, _, none⟩) NB141_136.out _).trans (((cell_far (p := ⟨gb136, _, none⟩) NB141_136.out _).trans (((cell_far (p := ⟨gb136, _, none⟩) NB141_136.out _).trans (((cell_far (p := ⟨gb136, _, none⟩) NB141_136.out _).trans (((cell_far (p := ⟨gb136, _, none⟩) NB141_136.out _).trans (hHeld.2.2.1)))))))))))), ((cell_far (p := ⟨gb136, _, none⟩) NB141_136.out _).trans (((cell_far (p := ⟨gb136, _, none⟩) NB141_136.out _).trans (((cell_far (p := ⟨gb136, _, none⟩) NB141_136.out _).trans (((cell_far (p := ⟨gb136, _, none⟩) NB141_136.out _).trans (((cell_far (p := ⟨gb136, _, none⟩) NB141_136.out _).trans (((cell_far (p := ⟨gb136, _, none⟩) NB141_136.out _).trans (hHeld.2.2.2.1)))))))))))), ((cell_far (p := ⟨gb136, _, none⟩) NB141_136.out _).trans (((cell_far (p := ⟨gb136, _, none⟩) NB141_136.out _).trans (((cell_far (p := ⟨gb136, _, none⟩) NB141_136.out _).trans (((cell_far (p := ⟨gb136, _, none⟩) NB141_136.out _).trans (((cell_far (p := ⟨gb136, _, none⟩) NB141_136.out _).trans (((cell_far (p := ⟨gb136, _, none⟩) NB141_136.out _).trans (hHeld.2.2.2.2.1)))))))))))), ((cell_far (p := ⟨gb136, _, none⟩) NB141_136.out _).trans (((cell_far (p := ⟨gb136, _, none⟩) NB141_136.out _).trans (((cell_far (p := ⟨gb136, _, none⟩) NB141_136.out _).trans (((cell_far (p := ⟨gb136, _, none⟩) NB141_136.out _).trans (((cell_far (p := ⟨gb136, _, none⟩) NB141_136.out _).trans (((cell_far (p := ⟨gb136, _, none⟩) NB141_136.out _).trans (hHeld.2.2.2.2.2))))))))))))⟩ (fun hHeld => ?_)
   clear hK K
   refine pure_ (i := 4) (N := some 4) (v := ?_) (a' := ?_) #[true, true, true, true, true] rfl rfl zG83 (fun _ _ _ h => h) (Or.inl ⟨by rfl, ?_⟩) ?_ ?_
   rotate_left
   ·intro w'
    go_simp
    with_reducible rfl
   rotate_left
   ·simp only [Act.put, List.setIfInBounds_toArray, List.set_cons_zero, List.set_cons_succ, i64_w, i32_w]
    rfl
   refine done_ zG83 ?_
   try go_wp2
   refine bodyPost_ret (results_list (rs := [.tmp 2, .cell 3 29, .tmp 4]) rfl (by simp) (.tmp (.cell gb136 29 (zs6 x142000_1 x142001_1 x142002_1 x142003_1 x142004_1 (.slice Ao35 x142005_1.length co35)) (0, 0) _ rfl (by (with_reducible repeat (first | refine zf ?_ _ | refine zg ?_ | refine ze ?_ _)); refine zu (cs := (zs6 x142000_1 x142001_1 x142002_1 x142003_1 x142004_1 (.slice none 0 0))) ?_ 5 _ rfl; (with_reducible repeat (first | refine zf ?_ _ | refine zg ?_ | refine ze ?_ _)); refine zu (cs := (zs6 x142000_1 x142001_1 x142002_1 x142003_1 0 (.slice none 0 0))) ?_ 4 _ rfl; (with_reducible repeat (first | refine zf ?_ _ | refine zg ?_ | refine ze ?_ _)); refine zu (cs := (zs6 x142000_1 x142001_1 x142002_1 0 0 (.slice none 0 0))) ?_ 3 _ rfl; (with_reducible repeat (first | refine zf ?_ _ | refine zg ?_ | refine ze ?_ _)); refine zu (cs := (zs6 x142000_1 x142001_1 0 0 0 (.slice none 0 0))) ?_ 2 _ rfl; (with_reducible repeat (first | refine zf ?_ _ | refine zg ?_ | refine ze ?_ _)); refine zu (cs := (zs6 x142000_1 0 0 0 0 (.slice none 0 0))) ?_ 1 _ rfl; (with_reducible repeat (first | refine zf ?_ _ | refine zg ?_ | refine ze ?_ _)); refine zu (cs := (zs6 0 0 0 0 0 (.slice none 0 0))) ?_ 0 _ rfl; (with_reducible repeat (first | refine zf ?_ _ | refine zg ?_ | refine ze ?_ _)); exact BK136.out) Try.underlying29 rfl zG83 (.tmp .nil)))) rfl ?_
   exact ⟨_, _, zH68, by (with_reducible repeat (first | apply zk | apply zl | apply zn)); exact zs (zm (p := ⟨gb136, 5, none⟩) (zm (p := ⟨gb136, 4, none⟩) (zm (p := ⟨gb136, 3, none⟩) (zm (p := ⟨gb136, 2, none⟩) (zm (p := ⟨gb136, 1, none⟩) (zm (p := ⟨gb136, 0, none⟩) (zw HO_6.out BK136.out zG84) (fun _ hk => hk.2) (.int .i64 x142000_1)) (fun _ hk => hk.2) (.int .i64 x142001_1)) (fun _ hk => hk.2) (.int .i64 x142002_1)) (fun _ hk => hk.2) (.int .i64 x142003_1)) (fun _ hk => hk.2) (.int .i64 x142004_1)) (fun _ hk => hk.2) (.slice Ao35 x142005_1.length co35)) (fun _ hk => trivial), by (with_reducible repeat (first | apply zk | apply zl | apply zn)); exact zs (zm (p := ⟨gb136, 5, none⟩) (zm (p := ⟨gb136, 4, none⟩) (zm (p := ⟨gb136, 3, none⟩) (zm (p := ⟨gb136, 2, none⟩) (zm (p := ⟨gb136, 1, none⟩) (zm (p := ⟨gb136, 0, none⟩) (zw HO_142005.out BK136.out zG84) (fun _ hk => hk.2) (.int .i64 x142000_1)) (fun _ hk => hk.2) (.int .i64 x142001_1)) (fun _ hk => hk.2) (.int .i64 x142002_1)) (fun _ hk => hk.2) (.int .i64 x142003_1)) (fun _ hk => hk.2) (.int .i64 x142004_1)) (fun _ hk => hk.2) (.slice Ao35 x142005_1.length co35)) (fun _ hk => trivial), zH20⟩
/-! ### laws_szStockAct: function 25 -/
def laws_szStockAct.f (a0_0 : Int) (a0_1 : ByteArray) (a0_2 : Int) (a0_3 : Int) (a0_4 : Int) (a1 : Int) : Option (Int) := if (wrap64 (a1 - (a0_1.size : Int))) < 0 then (some (-1)) else (some (wrap64 (a1 - (a0_1.size : Int))))
set_option maxHeartbeats 64000000 in
set_option maxRecDepth 100000 in
theorem laws_szStockAct.calls (a0_0 : Int) (a0_1 : ByteArray) (a0_2 : Int) (a0_3 : Int) (a0_4 : Int) (a1 : Int) (r : Int) (w : World) (h : laws_szStockAct.f a0_0 a0_1 a0_2 a0_3 a0_4 a1 = some r) :
  Calls Try.prog 25 #[.agg (za5 a0_0 a0_1 a0_2 a0_3 a0_4), .int .i64 a1] w fun e w' => e = .returned (.int .i64 r) ∧ Below w.heap.size w w' := by
 have hu57 := Try.underlying57
 have HB := za (Below.refl w.heap.size w)
 have H : (if (wrap64 (a1 - (a0_1.size : Int))) < 0 then (some (-1)) else (some (wrap64 (a1 - (a0_1.size : Int))))) = some r := h
 clear h
 by_cases c3 : (wrap64 (a1 - (a0_1.size : Int))) < 0
 ·rw [if_pos c3] at H
  have c3b0 := decide_eq_true c3
  clear c3
  obtain rfl := Option.some.inj H
  go_enter Try.func25, Try.ntmps25
  go_wp2_with (first | ((with_reducible refine gate_dst (N := 2) rfl ?_); refine box_event ?hg (N := 2) ?hd (cs := (za5 a0_0 a0_1 a0_2 a0_3 a0_4)) (t := 57) ?hr ?_; (case hd => rfl); (case hg => rfl); (case hr => exact zH83); intro gb157 hg w4 hbox hb; have n_ := zA_ (za (zr zG60 hb)) (zA_ (za (hbox)) (zA_ (zN1 w.heap.size hg (zp zG60)) (zN1 w.heap.size hg (zp zG60)))); clear HB; obtain ⟨HB, BK157, GW157, GE157⟩ := n_; clear hb hbox hg; have hcz5_0 : w4.cell? ⟨gb157, 0, none⟩ = some (.int .i64 a0_0) := (q5a BK157.out 0).trans rfl; have hcz5_1 : w4.cell? ⟨gb157, 1, none⟩ = some (.string a0_1) := (q5a BK157.out 1).trans rfl; have hcz5_2 : w4.cell? ⟨gb157, 2, none⟩ = some (.int .i64 a0_2) := (q5a BK157.out 2).trans rfl; have hcz5_3 : w4.cell? ⟨gb157, 3, none⟩ = some (.int .i64 a0_3) := (q5a BK157.out 3).trans rfl; have hcz5_4 : w4.cell? ⟨gb157, 4, none⟩ = some (.int .i64 a0_4) := (q5a BK157.out 4).trans rfl; have hfz5_0 := zc BK157.out 0; have hfz5_1 := zc BK157.out 1; have hfz5_2 := zc BK157.out 2; have hfz5_3 := zc BK157.out 3; have hfz5_4 := zc BK157.out 4))
  go_ret
  exact zH12
 rw [if_neg c3] at H
 have c3b0 := decide_eq_false c3
 clear c3
 obtain rfl := Option.some.inj H
 go_enter Try.func25, Try.ntmps25
 go_wp2_with (first | ((with_reducible refine gate_dst (N := 2) rfl ?_); refine box_event ?hg (N := 2) ?hd (cs := (za5 a0_0 a0_1 a0_2 a0_3 a0_4)) (t := 57) ?hr ?_; (case hd => rfl); (case hg => rfl); (case hr => exact zH83); intro gb157 hg w6 hbox hb; have n_ := zA_ (za (zr zG60 hb)) (zA_ (za (hbox)) (zA_ (zN1 w.heap.size hg (zp zG60)) (zN1 w.heap.size hg (zp zG60)))); clear HB; obtain ⟨HB, BK157, GW157, GE157⟩ := n_; clear hb hbox hg; have hcz7_0 : w6.cell? ⟨gb157, 0, none⟩ = some (.int .i64 a0_0) := (q5a BK157.out 0).trans rfl; have hcz7_1 : w6.cell? ⟨gb157, 1, none⟩ = some (.string a0_1) := (q5a BK157.out 1).trans rfl; have hcz7_2 : w6.cell? ⟨gb157, 2, none⟩ = some (.int .i64 a0_2) := (q5a BK157.out 2).trans rfl; have hcz7_3 : w6.cell? ⟨gb157, 3, none⟩ = some (.int .i64 a0_3) := (q5a BK157.out 3).trans rfl; have hcz7_4 : w6.cell? ⟨gb157, 4, none⟩ = some (.int .i64 a0_4) := (q5a BK157.out 4).trans rfl; have hfz7_0 := zc BK157.out 0; have hfz7_1 := zc BK157.out 1; have hfz7_2 := zc BK157.out 2; have hfz7_3 := zc BK157.out 3; have hfz7_4 := zc BK157.out 4))
 go_ret
 exact zH12

/-! ### laws_szStockActS: function 10 -/
def laws_szStockActS.l0 : Nat → List (S57) → Int → Int → Option (Int)
 | 0, _, _, _ => none
 | k + 1, x0, x1, x5 => if x5 < (x0.length : Int) then (if 0 ≤ x5 then ((laws_szStockAct.f ((rd_T57 x0 x5).f0) ((rd_T57 x0 x5).f1) ((rd_T57 x0 x5).f2) ((rd_T57 x0 x5).f3) ((rd_T57 x0 x5).f4) x1).bind fun t159 => (if t159 < 0 then (some (-1)) else (laws_szStockActS.l0 k x0 t159 (wrap64 (x5 + 1))))) else (none)) else (some x1)
def laws_szStockActS.f (k : Nat) (l0 : List (S57)) (a1 : Int) : Option (Int) := if (wrap64 (a1 - (l0.length : Int))) < 0 then (some (-1)) else (laws_szStockActS.l0 k l0 (wrap64 (a1 - (l0.length : Int))) 0)
theorem laws_szStockActS.mono_l : ∀ k, (∀ y0 y1 y2, LeO (laws_szStockActS.l0 k y0 y1 y2) (laws_szStockActS.l0 (k + 1) y0 y1 y2))
 | 0 => fun _ _ _ r h => by simp [laws_szStockActS.l0] at h
 | k + 1 => by
  have ih0 := laws_szStockActS.mono_l k
  ·intro y0 y1 y2
   unfold laws_szStockActS.l0
   repeat' first
   | (with_reducible exact ih0 _ _ _)
   | (with_reducible exact LeO.refl _)
   | (with_reducible exact LeO.none _)
   | (with_reducible refine LeO.ite ?_ ?_)
   | (with_reducible refine LeO.bind ?_ (fun _ => ?_))
   | exact ih0 _ _ _
   | exact LeO.none _
   | refine LeO.ite ?_ ?_
   | refine LeO.bind ?_ (fun _ => ?_)
theorem laws_szStockActS.mono : ∀ a0 a1 k, LeO (laws_szStockActS.f k a0 a1) (laws_szStockActS.f (k + 1) a0 a1) := by
 intro a0 a1 k
 have ih0 := laws_szStockActS.mono_l k
 unfold laws_szStockActS.f
 repeat' first
   | (with_reducible exact ih0 _ _ _)
   | (with_reducible exact LeO.refl _)
   | (with_reducible exact LeO.none _)
   | (with_reducible refine LeO.ite ?_ ?_)
   | (with_reducible refine LeO.bind ?_ (fun _ => ?_))
   | exact ih0 _ _ _
   | exact LeO.none _
   | refine LeO.ite ?_ ?_
   | refine LeO.bind ?_ (fun _ => ?_)
set_option maxHeartbeats 64000000 in
set_option maxRecDepth 100000 in
theorem laws_szStockActS.calls (k : Nat) (A0 : Option Addr) (c0 : Nat) (l0 : List (S57)) (a1 : Int) (r : Int) (w : World) (hr0 : Kd.C k57 w A0 l0.length l0) (hc0 : l0.length ≤ c0) (h : laws_szStockActS.f k l0 a1 = some r) :
  Calls Try.prog 10 #[.slice A0 l0.length c0, .int .i64 a1] w fun e w' => e = .returned (.int .i64 r) ∧ Below w.heap.size w w' := by
 have hu57 := Try.underlying57
 obtain ⟨HR0, HC0, HB⟩ := zD3 hr0 hc0 (Below.refl w.heap.size w)
 clear hr0 hc0
 have H : (if (wrap64 (a1 - (l0.length : Int))) < 0 then (some (-1)) else (laws_szStockActS.l0 k l0 (wrap64 (a1 - (l0.length : Int))) 0)) = some r := h
 clear h
 by_cases c3 : (wrap64 (a1 - (l0.length : Int))) < 0
 ·rw [if_pos c3] at H
  have c3b0 := decide_eq_true c3
  clear c3
  obtain rfl := Option.some.inj H
  go_enter Try.func10, Try.ntmps10
  go_wp2
  go_ret
  exact zH14
 rw [if_neg c3] at H
 have c3b0 := decide_eq_false c3
 clear c3
 have H' := za H
 clear H
 go_enter Try.func10, Try.ntmps10
 go_wp2
 go_loopg [1, 5] k (fun kq v1 v5 w' => ∃ (x1_1 : Int) (x5_1 : Int), v1 = .int .i64 x1_1 ∧ v5 = .int .i64 x5_1 ∧ Aside0 (laws_szStockActS.l0 kq l0 x1_1 x5_1 = some r) ∧ Aside0 (kq ≤ k) ∧ Aside0 (Below w.heap.size w w'))
 case atStart => exact ⟨(wrap64 (a1 - (l0.length : Int))), (0), zG82, zG82, H', ⟨Nat.le_refl _⟩, ⟨zH60⟩⟩
 case round =>
  clear H'
  try clear c3
  try clear c3b0
  obtain ⟨x1_1, x5_1, rfl, rfl, HA, HK1, HB⟩ := hrel
  cases gk with
  | zero => exact absurd HA.out (by simp [laws_szStockActS.l0])
  | succ k1 =>
   have H := HA.out
   clear HA
   simp only [laws_szStockActS.l0] at H
   by_cases c4 : x5_1 < (l0.length : Int)
   rotate_left
   ·rw [if_neg c4] at H
    have c4b0 := decide_eq_false c4
    clear c4
    obtain rfl := Option.some.inj H
    go_wp2
    go_ret
    exact zH14

   rw [if_pos c4] at H
   have c4b0 := decide_eq_true c4
   clear c4
   by_cases c5 : 0 ≤ x5_1
   rotate_left
   ·rw [if_neg c5] at H
    exact absurd H (by simp)
   rw [if_pos c5] at H
   have c5b0 := decide_eq_true c5
   clear c5
   replace H := Option.bind_eq_some_iff.mp H
   obtain ⟨t159, A60, H⟩ := H
   replace H : (if t159 < 0 then (some (-1)) else (laws_szStockActS.l0 k1 l0 t159 (wrap64 (x5_1 + 1)))) = some r := H
   have A6 := za A60
   clear A60
   by_cases c7 : t159 < 0
   ·rw [if_pos c7] at H
    have c7b0 := decide_eq_true c7
    clear c7
    obtain rfl := Option.some.inj H
    have p158 : 0 ≤ (x5_1 : Int) := zO
    have q158 : x5_1 < (l0.length : Int) := zO
    obtain ⟨ad158, e158, hx158_0, hx158_1, hx158_2, hx158_3, hx158_4⟩ := at_T57 HR0.out x5_1 p158 q158
    cases e158
    replace hx158_0 := (HB.out.cell (zb w _ hx158_0)).trans hx158_0
    replace hx158_1 := (HB.out.cell (zb w _ hx158_1)).trans hx158_1
    replace hx158_2 := (HB.out.cell (zb w _ hx158_2)).trans hx158_2
    replace hx158_3 := (HB.out.cell (zb w _ hx158_3)).trans hx158_3
    replace hx158_4 := (HB.out.cell (zb w _ hx158_4)).trans hx158_4
    replace p158 := eq_true p158
    replace q158 := eq_true q158
    go_wp2_with (first | ((with_reducible refine gate_callee (f := 25) rfl ?_); refine goesL_ (some 23) rfl rfl Try.func25 zG83 rfl #[.agg (za5 ((rd_T57 l0 x5_1).f0) ((rd_T57 l0 x5_1).f1) ((rd_T57 l0 x5_1).f2) ((rd_T57 l0 x5_1).f3) ((rd_T57 l0 x5_1).f4)), .int .i64 x1_1] rfl zG54 ?_; (with_reducible refine (laws_szStockAct.calls ((rd_T57 l0 x5_1).f0) ((rd_T57 l0 x5_1).f1) ((rd_T57 l0 x5_1).f2) ((rd_T57 l0 x5_1).f3) ((rd_T57 l0 x5_1).f4) x1_1 t159 _ A6.out).mono ?_); rintro e w8 ⟨rfl, hb⟩; refine ⟨_, rfl, ?_⟩; replace HB := za (zr zG60 hb); (try clear hb)))
    go_ret
    exact zH14
   rw [if_neg c7] at H
   have c7b0 := decide_eq_false c7
   clear c7
   have H' := za H
   clear H
   have p158 : 0 ≤ (x5_1 : Int) := zO
   have q158 : x5_1 < (l0.length : Int) := zO
   obtain ⟨ad158, e158, hx158_0, hx158_1, hx158_2, hx158_3, hx158_4⟩ := at_T57 HR0.out x5_1 p158 q158
   cases e158
   replace hx158_0 := (HB.out.cell (zb w _ hx158_0)).trans hx158_0
   replace hx158_1 := (HB.out.cell (zb w _ hx158_1)).trans hx158_1
   replace hx158_2 := (HB.out.cell (zb w _ hx158_2)).trans hx158_2
   replace hx158_3 := (HB.out.cell (zb w _ hx158_3)).trans hx158_3
   replace hx158_4 := (HB.out.cell (zb w _ hx158_4)).trans hx158_4
   replace p158 := eq_true p158
   replace q158 := eq_true q158
   go_wp2_with (first | ((with_reducible refine gate_callee (f := 25) rfl ?_); refine goesL_ (some 23) rfl rfl Try.func25 zG83 rfl #[.agg (za5 ((rd_T57 l0 x5_1).f0) ((rd_T57 l0 x5_1).f1) ((rd_T57 l0 x5_1).f2) ((rd_T57 l0 x5_1).f3) ((rd_T57 l0 x5_1).f4)), .int .i64 x1_1] rfl zG54 ?_; (with_reducible refine (laws_szStockAct.calls ((rd_T57 l0 x5_1).f0) ((rd_T57 l0 x5_1).f1) ((rd_T57 l0 x5_1).f2) ((rd_T57 l0 x5_1).f3) ((rd_T57 l0 x5_1).f4) x1_1 t159 _ A6.out).mono ?_); rintro e w9 ⟨rfl, hb⟩; refine ⟨_, rfl, ?_⟩; replace HB := za (zr zG60 hb); (try clear hb)))
   go_roundg k1
   case measure => have := HK1.out; omega
   case rel => exact ⟨(t159), (wrap64 (x5_1 + 1)), zG82, zG82, H', ⟨zH88⟩, ⟨zH60⟩⟩
/-! ### spec_l01In: function 44 -/
def spec_l01In.f (a0 : Int) (a1 : Int) (a2 : Int) : Option (Bool) := if a0 ≥ a1 then (some (decide (a0 ≤ a2))) else (some false)
set_option maxHeartbeats 64000000 in
set_option maxRecDepth 100000 in
theorem spec_l01In.calls (a0 : Int) (a1 : Int) (a2 : Int) (r : Bool) (w : World) (h : spec_l01In.f a0 a1 a2 = some r) :
  Calls Try.prog 44 #[.int .i64 a0, .int .i64 a1, .int .i64 a2] w fun e w' => e = .returned (.bool r) ∧ Drawn0 w w' := by
 have H : (if a0 ≥ a1 then (some (decide (a0 ≤ a2))) else (some false)) = some r := h
 clear h
 by_cases c4 : a0 ≥ a1
 ·rw [if_pos c4] at H
  have c4b0 : decide (a1 ≤ a0) = true := decide_eq_true c4
  clear c4
  obtain rfl := Option.some.inj H
  go_enter Try.func44, Try.ntmps44
  go_wp2
  go_ret
  exact zH49
 rw [if_neg c4] at H
 have c4b0 : decide (a1 ≤ a0) = false := decide_eq_false c4
 clear c4
 obtain rfl := Option.some.inj H
 go_enter Try.func44, Try.ntmps44
 go_wp2
 go_ret
 exact zH49

/-! ### spec_l14Find: function 45 -/
def spec_l14Find.l0 : Nat → List (S38) → ByteArray → Int → Int → Option (Int)
 | 0, _, _, _, _ => none
 | k + 1, x0, x1, x2, x7 => if x7 < (x0.length : Int) then (if 0 ≤ x7 then (if ((rd_T38 x0 x7).f0).toList = x1.toList then (if ((rd_T38 x0 x7).f1) = x2 then (some x7) else (spec_l14Find.l0 k x0 x1 x2 (wrap64 (x7 + 1)))) else (spec_l14Find.l0 k x0 x1 x2 (wrap64 (x7 + 1)))) else (none)) else (some (-1))
def spec_l14Find.f (k : Nat) (l0 : List (S38)) (a1 : ByteArray) (a2 : Int) : Option (Int) := spec_l14Find.l0 k l0 a1 a2 0
theorem spec_l14Find.mono_l : ∀ k, (∀ y0 y1 y2 y3, LeO (spec_l14Find.l0 k y0 y1 y2 y3) (spec_l14Find.l0 (k + 1) y0 y1 y2 y3))
 | 0 => fun _ _ _ _ r h => by simp [spec_l14Find.l0] at h
 | k + 1 => by
  have ih0 := spec_l14Find.mono_l k
  ·intro y0 y1 y2 y3
   unfold spec_l14Find.l0
   repeat' first
   | (with_reducible exact ih0 _ _ _ _)
   | (with_reducible exact LeO.refl _)
   | (with_reducible exact LeO.none _)
   | (with_reducible refine LeO.ite ?_ ?_)
   | (with_reducible refine LeO.bind ?_ (fun _ => ?_))
   | exact ih0 _ _ _ _
   | exact LeO.none _
   | refine LeO.ite ?_ ?_
   | refine LeO.bind ?_ (fun _ => ?_)
theorem spec_l14Find.mono : ∀ a0 a1 a2 k, LeO (spec_l14Find.f k a0 a1 a2) (spec_l14Find.f (k + 1) a0 a1 a2) := by
 intro a0 a1 a2 k
 have ih0 := spec_l14Find.mono_l k
 unfold spec_l14Find.f
 repeat' first
   | (with_reducible exact ih0 _ _ _ _)
   | (with_reducible exact LeO.refl _)
   | (with_reducible exact LeO.none _)
   | (with_reducible refine LeO.ite ?_ ?_)
   | (with_reducible refine LeO.bind ?_ (fun _ => ?_))
   | exact ih0 _ _ _ _
   | exact LeO.none _
   | refine LeO.ite ?_ ?_
   | refine LeO.bind ?_ (fun _ => ?_)
set_option maxHeartbeats 64000000 in
set_option maxRecDepth 100000 in
theorem spec_l14Find.calls (k : Nat) (A0 : Option Addr) (c0 : Nat) (l0 : List (S38)) (a1 : ByteArray) (a2 : Int) (r : Int) (w : World) (hr0 : Kd.C k38 w A0 l0.length l0) (hc0 : l0.length ≤ c0) (h : spec_l14Find.f k l0 a1 a2 = some r) :
  Calls Try.prog 45 #[.slice A0 l0.length c0, .string a1, .int .i64 a2] w fun e w' => e = .returned (.int .i64 r) ∧ Drawn0 w w' := by
 obtain ⟨HR0, HC0⟩ := zD2 hr0 hc0
 clear hr0 hc0
 have H : (spec_l14Find.l0 k l0 a1 a2 0) = some r := h
 clear h
 have H' := za H
 clear H
 go_enter Try.func45, Try.ntmps45
 go_wp2
 go_loopg [7] k (fun kq v7 w' => ∃ (x7_1 : Int), v7 = .int .i64 x7_1 ∧ Aside0 (spec_l14Find.l0 kq l0 a1 a2 x7_1 = some r) ∧ Aside0 (kq ≤ k) ∧ Drawn0 w w')
 case atStart => exact ⟨(0), zG82, H', ⟨Nat.le_refl _⟩, zH77⟩
 case round =>
  clear H'
  obtain ⟨x7_1, rfl, HA, HK1, ⟨m1, rfl⟩⟩ := hrel
  cases gk with
  | zero => exact absurd HA.out (by simp [spec_l14Find.l0])
  | succ k1 =>
   have H := HA.out
   clear HA
   simp only [spec_l14Find.l0] at H
   by_cases c4 : x7_1 < (l0.length : Int)
   rotate_left
   ·rw [if_neg c4] at H
    have c4b0 := decide_eq_false c4
    clear c4
    obtain rfl := Option.some.inj H
    go_wp2
    go_ret
    exact zH49

   rw [if_pos c4] at H
   have c4b0 := decide_eq_true c4
   clear c4
   by_cases c5 : 0 ≤ x7_1
   rotate_left
   ·rw [if_neg c5] at H
    exact absurd H (by simp)
   rw [if_pos c5] at H
   have c5b0 := decide_eq_true c5
   clear c5
   by_cases c6 : ((rd_T38 l0 x7_1).f0).toList = a1.toList
   rotate_left
   ·rw [if_neg c6] at H
    have c6b0 : (((rd_T38 l0 x7_1).f0).toList == a1.toList) = false := beq_eq_false_iff_ne.mpr c6
    have c6b1 : (((rd_T38 l0 x7_1).f0).toList != a1.toList) = true := bne_iff_ne.mpr c6
    have H' := za H
    clear H
    have p160 : 0 ≤ (x7_1 : Int) := zO
    have q160 : x7_1 < (l0.length : Int) := zO
    obtain ⟨ad160, e160, hx160_0, hx160_1, hx160_2, hx160_3, hx160_4⟩ := at_T38 HR0.out x7_1 p160 q160
    cases e160
    replace p160 := eq_true p160
    replace q160 := eq_true q160
    go_wp2
    go_roundg k1
    case measure => have := HK1.out; omega
    case rel => exact ⟨(wrap64 (x7_1 + 1)), zG82, H', ⟨zH88⟩, zH77⟩
   rw [if_pos c6] at H
   have c6b0 : (((rd_T38 l0 x7_1).f0).toList == a1.toList) = true := beq_iff_eq.mpr c6
   have c6b1 : (((rd_T38 l0 x7_1).f0).toList != a1.toList) = false := bne_eq_false_iff_eq.mpr c6
   clear c6
   by_cases c7 : ((rd_T38 l0 x7_1).f1) = a2
   ·rw [if_pos c7] at H
    have c7b0 : (((rd_T38 l0 x7_1).f1) == a2) = true := beq_iff_eq.mpr c7
    have c7b1 : (((rd_T38 l0 x7_1).f1) != a2) = false := bne_eq_false_iff_eq.mpr c7
    clear c7
    obtain rfl := Option.some.inj H
    have p160 : 0 ≤ (x7_1 : Int) := zO
    have q160 : x7_1 < (l0.length : Int) := zO
    obtain ⟨ad160, e160, hx160_0, hx160_1, hx160_2, hx160_3, hx160_4⟩ := at_T38 HR0.out x7_1 p160 q160
    cases e160
    replace p160 := eq_true p160
    replace q160 := eq_true q160
    have p161 : 0 ≤ (x7_1 : Int) := zO
    have q161 : x7_1 < (l0.length : Int) := zO
    obtain ⟨ad161, e161, hx161_0, hx161_1, hx161_2, hx161_3, hx161_4⟩ := at_T38 HR0.out x7_1 p161 q161
    obtain rfl : ad160 = ad161 := (by injection e161)
    replace p161 := eq_true p161
    replace q161 := eq_true q161
    go_wp2
    go_ret
    exact zH49
   rw [if_neg c7] at H
   have c7b0 : (((rd_T38 l0 x7_1).f1) == a2) = false := beq_eq_false_iff_ne.mpr c7
   have c7b1 : (((rd_T38 l0 x7_1).f1) != a2) = true := bne_iff_ne.mpr c7
   have H' := za H
   clear H
   have p160 : 0 ≤ (x7_1 : Int) := zO
   have q160 : x7_1 < (l0.length : Int) := zO
   obtain ⟨ad160, e160, hx160_0, hx160_1, hx160_2, hx160_3, hx160_4⟩ := at_T38 HR0.out x7_1 p160 q160
   cases e160
   replace p160 := eq_true p160
   replace q160 := eq_true q160
   have p161 : 0 ≤ (x7_1 : Int) := zO
   have q161 : x7_1 < (l0.length : Int) := zO
   obtain ⟨ad161, e161, hx161_0, hx161_1, hx161_2, hx161_3, hx161_4⟩ := at_T38 HR0.out x7_1 p161 q161
   obtain rfl : ad160 = ad161 := (by injection e161)
   replace p161 := eq_true p161
   replace q161 := eq_true q161
   go_wp2
   go_roundg k1
   case measure => have := HK1.out; omega
   case rel => exact ⟨(wrap64 (x7_1 + 1)), zG82, H', ⟨zH88⟩, zH77⟩
end Go.Proofs.Ytnkceaibkfbeaaa.E
