-- squeezed
-- made by pp.py (wip/tools) out of the translation; Lean checks it
import Derived.Test.YtnkceaibkfbeaaaE0
import Derived.Test.YtnkceaibkfbeaaaE4
import Derived.Test.YtnkceaibkfbeaaaE12
namespace Go.Proofs.Ytnkceaibkfbeaaa.E
open Go.RowKit Go.Proofs.YtnkceaibkfbeaaaW.PrintWords Go.Proofs.YtnkceaibkfbeaaaW.PrintLast Go.Proofs.YtnkceaibkfbeaaaW.PrintMore
attribute [local go_sem] max2_int min2_int max_two min_two max_three min_three max_four min_four   -- for this text's walks alone
set_option linter.unusedVariables false
set_option linter.unusedSimpArgs false
theorem zG51x {p : Prop} (h : p := by first | (simp only [YtnkceaibkfbeaaaW.PrintLast.putAll, Act.put, List.setIfInBounds_toArray, List.set_cons_zero, List.set_cons_succ]; done) | (simp only [YtnkceaibkfbeaaaW.PrintLast.putAll, Act.put, List.setIfInBounds_toArray, List.set_cons_zero, List.set_cons_succ]; rfl)) : p := h
abbrev b13A0 := zM 13 2047
abbrev b13A1 := zM 13 1023
abbrev b13A2 := zM 13 1535
abbrev b13A3 := zM 13 1567
abbrev b13A4 := zM 13 511
abbrev b13A5 := zM 13 543
abbrev b13A6 := zM 13 1055
/-! ### spec_StockRun: function 11 -/
def spec_StockRun.l0 : Nat → List (S34) → List (S36) → Int → Int → Int → Int → Int → Int → List (S38) → Option ((List (S36)) × Int × Int × Int × Int × Int × (List (S38)) × Int)
 | 0, _, _, _, _, _, _, _, _, _ => none
 | k + 1, x0, x6, x7, x270000, x270001, x270002, x270003, x270004, x270005 => if x7 < (x0.length : Int) then (if 0 ≤ x7 then ((spec_l14Act.f k x270000 x270001 x270002 x270003 x270004 x270005 ((rd_T34 x0 x7).f0) ((rd_T34 x0 x7).f1) ((rd_T34 x0 x7).f2) ((rd_T34 x0 x7).f3) ((rd_T34 x0 x7).f4)).bind fun bt274 => (if x6.length < 8796093022208 then (spec_StockRun.l0 k x0 (x6 ++ [(⟨bt274.2.2.2.2.2.2.1, bt274.2.2.2.2.2.2.2⟩ : S36)]) (wrap64 (x7 + 1)) bt274.1 bt274.2.1 bt274.2.2.1 bt274.2.2.2.1 bt274.2.2.2.2.1 bt274.2.2.2.2.2.1) else (none))) else (none)) else (some (x6, x270000, x270001, x270002, x270003, x270004, x270005, 0))
def spec_StockRun.f (k : Nat) (l0 : List (S34)) : Option ((List (S36)) × Int × Int × Int × Int × Int × (List (S38)) × Int) := if (l0.length : Int) > 4096 then (some ((([] : List (S36))), 0, 0, 0, 0, 0, ([] : List (S38)), 2)) else (if (l0.length : Int) > 200 then (some ((([] : List (S36))), 0, 0, 0, 0, 0, ([] : List (S38)), 9)) else (spec_StockRun.l0 k l0 (([] : List (S36))) 0 0 0 0 0 0 ([] : List (S38))))
theorem spec_StockRun.mono_l : ∀ k, (∀ y0 y1 y2 y3 y4 y5 y6 y7 y8, LeO (spec_StockRun.l0 k y0 y1 y2 y3 y4 y5 y6 y7 y8) (spec_StockRun.l0 (k + 1) y0 y1 y2 y3 y4 y5 y6 y7 y8))
 | 0 => fun _ _ _ _ _ _ _ _ _ r h => by simp [spec_StockRun.l0] at h
 | k + 1 => by
  have ih0 := spec_StockRun.mono_l k
  ·intro y0 y1 y2 y3 y4 y5 y6 y7 y8
   unfold spec_StockRun.l0
   repeat' first
   | (with_reducible exact ih0 _ _ _ _ _ _ _ _ _)
   | (with_reducible exact spec_l14Act.mono _ _ _ _ _ _ _ _ _ _ _ _)
   | (with_reducible exact LeO.refl _)
   | (with_reducible exact LeO.none _)
   | (with_reducible refine LeO.ite ?_ ?_)
   | (with_reducible refine LeO.bind ?_ (fun _ => ?_))
   | exact ih0 _ _ _ _ _ _ _ _ _
   | exact spec_l14Act.mono _ _ _ _ _ _ _ _ _ _ _ _
   | exact LeO.none _
   | refine LeO.ite ?_ ?_
   | refine LeO.bind ?_ (fun _ => ?_)
theorem spec_StockRun.mono : ∀ a0 k, LeO (spec_StockRun.f k a0) (spec_StockRun.f (k + 1) a0) := by
 intro a0 k
 have ih0 := spec_StockRun.mono_l k
 unfold spec_StockRun.f
 repeat' first
   | (with_reducible exact ih0 _ _ _ _ _ _ _ _ _)
   | (with_reducible exact spec_l14Act.mono _ _ _ _ _ _ _ _ _ _ _ _)
   | (with_reducible exact LeO.refl _)
   | (with_reducible exact LeO.none _)
   | (with_reducible refine LeO.ite ?_ ?_)
   | (with_reducible refine LeO.bind ?_ (fun _ => ?_))
   | exact ih0 _ _ _ _ _ _ _ _ _
   | exact spec_l14Act.mono _ _ _ _ _ _ _ _ _ _ _ _
   | exact LeO.none _
   | refine LeO.ite ?_ ?_
   | refine LeO.bind ?_ (fun _ => ?_)
def spec_StockRun.T10 : Bool × List (List Nat × List Nat) := (true, [([], []), ([], []), ([], []), ([1, 2], [1, 2]), ([3], [3]), ([0, 4], [0, 4]), ([5], [5]), ([6], [6]), ([6], [6]), ([], []), ([], []), ([9, 7, 5, 0, 1, 2, 3, 4, 5, 6, 7, 9, 10], [7, 9]), ([10, 8, 11, 0, 1, 2, 3, 4, 5, 6, 7, 8, 9, 10, 11], [8, 10])])
def spec_StockRun.B10 : List Nat := [0, 0, 0, 6, 14, 31, 63, 127, 127, 0, 0, 1791, 4095]
theorem spec_StockRun.tab10 : rtab .any (opsOf Try.f11 10) = spec_StockRun.T10 := by kernel_rfl
theorem spec_StockRun.bits10 : waitsOk spec_StockRun.T10.2 spec_StockRun.B10 = true := by kernel_rfl
set_option maxHeartbeats 64000000 in
set_option maxRecDepth 100000 in
theorem spec_StockRun.calls (k : Nat) (A0 : Option Addr) (c0 : Nat) (l0 : List (S34)) (r1 : List (S36)) (r2 : Int) (r3 : Int) (r4 : Int) (r5 : Int) (r6 : Int) (r7 : List (S38)) (r8 : Int) (w : World) (hr0 : Kd.C k34 w A0 l0.length l0) (hc0 : l0.length ≤ c0) (h : spec_StockRun.f k l0 = some (r1, r2, r3, r4, r5, r6, r7, r8)) :
  Calls Try.prog 11 #[.slice A0 l0.length c0] w fun e w' => ∃ v0_ v6_ : Value, e = .returned (.tuple #[v0_, .agg (zs6 r2 r3 r4 r5 r6 v6_), .int .i64 r8]) ∧ Kd.R k36 36 w' w.heap.size (fun _ => True) v0_ r1 ∧ Kd.R k38 38 w' w.heap.size (fun _ => True) v6_ r7 ∧ Below w.heap.size w w' := by
 have hu29 := Try.underlying29
 have hu34 := Try.underlying34
 have hu36 := Try.underlying36
 obtain ⟨HR0, HC0, HB⟩ := zD3 hr0 hc0 (Below.refl w.heap.size w)
 clear hr0 hc0
 have H : (if (l0.length : Int) > 4096 then (some ((([] : List (S36))), 0, 0, 0, 0, 0, ([] : List (S38)), 2)) else (if (l0.length : Int) > 200 then (some ((([] : List (S36))), 0, 0, 0, 0, 0, ([] : List (S38)), 9)) else (spec_StockRun.l0 k l0 (([] : List (S36))) 0 0 0 0 0 0 ([] : List (S38))))) = some (r1, r2, r3, r4, r5, r6, r7, r8) := h
 clear h
 by_cases c2 : (l0.length : Int) > 4096
 ·rw [if_pos c2] at H
  have c2b0 : decide (4096 < (l0.length : Int)) = true := decide_eq_true c2
  have c2b1 : decide (4096 < l0.length) = true := decide_eq_true (by omega)
  clear c2
  obtain ⟨y263, hy263⟩ : ∃ y_ : List (S36), y_ = (([] : List (S36))) := ⟨_, rfl⟩
  replace H : (some (y263, 0, 0, 0, 0, 0, ([] : List (S38)), 2)) = some (r1, r2, r3, r4, r5, r6, r7, r8) := by first | (rw [hy263]; with_reducible exact H) | (have H2_ := (Option.bind_some _ _).symm.trans H; rw [hy263]; with_reducible exact H2_) | (have H2_ := (Option.bind_some _ _).symm.trans H; with_reducible exact H2_) | with_reducible exact H | (rw [hy263]; exact H) | exact H
  have Ny263 := za hy263
  clear hy263
  simp only [Option.some.injEq, Prod.mk.injEq] at H
  obtain ⟨rfl, rfl, rfl, rfl, rfl, rfl, rfl, rfl⟩ := H
  go_enter Try.func11, Try.ntmps11
  go_wp2_with (first | ((with_reducible refine gate_dst (N := 3) rfl ?_); refine box_event ?hg (N := 3) ?hd (cs := (zs6 0 0 0 0 0 (.slice none 0 0))) (t := 29) ?hr ?_; (case hd => rfl); (case hg => rfl); (case hr => exact zH83); intro gb262 hg w3 hbox hb; have n_ := zA_ (za (zr zG60 hb)) (zA_ (za (hbox)) (zA_ (zN1 w.heap.size hg (zp zG60)) (zN1 w.heap.size hg (zp zG60)))); clear HB; obtain ⟨HB, BK262, GW262, GE262⟩ := n_; clear hb hbox hg) | ((with_reducible refine gate_dst (N := 13) rfl ?_); refine Kd.R_lit k36 _ 36 ?hg (N := 13) ?hd (xs := ([] : List (S36))) (inner := []) (ok := fun _ => True) (okp := fun _ => True) ?hr ?hp (fun _ hk => hk) trivial (Below.refl _ _) (Nat.le_refl _) (by simp) ?_; (case hd => rfl); (case hg => rfl); (case hr => exact zH83); (case hp => exact (Reps.none _ _)); intro v264 w4 ho5 hb hg_ hnew_; clear hg_ hnew_; (first | rw [← Ny263.out] at ho5 | (simp only [Int.reduceToNat] at ho5; rw [← Ny263.out] at ho5)); have n_ := zA_ (za (zai ho5 (zp zK150))) (zA_ (za (zq (g := gb262) (o := .cells (zs6 0 0 0 0 0 (.slice none 0 0)) 29 (0, 0)) zG65 hb)) (za (zr zK150 hb))); clear BK262 HB; obtain ⟨HO265, BK262, HB⟩ := n_; clear hb ho5; obtain ⟨hcz6_0, hcz6_1, hcz6_2, hcz6_3, hcz6_4, hcz6_5, hfz6_0, hfz6_1, hfz6_2, hfz6_3, hfz6_4, hfz6_5⟩ := zB6 BK262.out))
  refine bodyPost_ret (results_list (rs := [.tmp 2, .cell 3 29, .tmp 4]) rfl (by simp) (.tmp (.cell gb262 29 (zs6 0 0 0 0 0 (.slice none 0 0)) (0, 0) _ rfl zK95 Try.underlying29 rfl zG83 (.tmp .nil)))) rfl ?_
  exact ⟨_, _, zH68, by (with_reducible repeat (first | apply zk | apply zl | apply zn)); exact zs (zm (p := ⟨gb262, 5, none⟩) (zm (p := ⟨gb262, 4, none⟩) (zm (p := ⟨gb262, 3, none⟩) (zm (p := ⟨gb262, 2, none⟩) (zm (p := ⟨gb262, 1, none⟩) (zm (p := ⟨gb262, 0, none⟩) (zw HO265.out BK262.out zG84) (fun _ hk => hk.2) (.int .i64 0)) (fun _ hk => hk.2) (.int .i64 0)) (fun _ hk => hk.2) (.int .i64 0)) (fun _ hk => hk.2) (.int .i64 0)) (fun _ hk => hk.2) (.int .i64 0)) (fun _ hk => hk.2) (.slice none 0 0)) (fun _ hk => trivial), zH48, zH44⟩
 rw [if_neg c2] at H
 have c2b0 : decide (4096 < (l0.length : Int)) = false := decide_eq_false c2
 have c2b1 : decide (4096 < l0.length) = false := decide_eq_false (by omega)
 clear c2
 by_cases c7 : (l0.length : Int) > 200
 ·rw [if_pos c7] at H
  have c7b0 : decide (200 < (l0.length : Int)) = true := decide_eq_true c7
  have c7b1 : decide (200 < l0.length) = true := decide_eq_true (by omega)
  clear c7
  obtain ⟨y266, hy266⟩ : ∃ y_ : List (S36), y_ = (([] : List (S36))) := ⟨_, rfl⟩
  replace H : (some (y266, 0, 0, 0, 0, 0, ([] : List (S38)), 9)) = some (r1, r2, r3, r4, r5, r6, r7, r8) := by first | (rw [hy266]; with_reducible exact H) | (have H2_ := (Option.bind_some _ _).symm.trans H; rw [hy266]; with_reducible exact H2_) | (have H2_ := (Option.bind_some _ _).symm.trans H; with_reducible exact H2_) | with_reducible exact H | (rw [hy266]; exact H) | exact H
  have Ny266 := za hy266
  clear hy266
  simp only [Option.some.injEq, Prod.mk.injEq] at H
  obtain ⟨rfl, rfl, rfl, rfl, rfl, rfl, rfl, rfl⟩ := H
  go_enter Try.func11, Try.ntmps11
  go_wp2_with (first | ((with_reducible refine gate_dst (N := 3) rfl ?_); refine box_event ?hg (N := 3) ?hd (cs := (zs6 0 0 0 0 0 (.slice none 0 0))) (t := 29) ?hr ?_; (case hd => rfl); (case hg => rfl); (case hr => exact zH83); intro gb262 hg w8 hbox hb; have n_ := zA_ (za (zr zG60 hb)) (zA_ (za (hbox)) (zA_ (zN1 w.heap.size hg (zp zG60)) (zN1 w.heap.size hg (zp zG60)))); clear HB; obtain ⟨HB, BK262, GW262, GE262⟩ := n_; clear hb hbox hg) | ((with_reducible refine gate_dst (N := 18) rfl ?_); refine Kd.R_lit k36 _ 36 ?hg (N := 18) ?hd (xs := ([] : List (S36))) (inner := []) (ok := fun _ => True) (okp := fun _ => True) ?hr ?hp (fun _ hk => hk) trivial (Below.refl _ _) (Nat.le_refl _) (by simp) ?_; (case hd => rfl); (case hg => rfl); (case hr => exact zH83); (case hp => exact (Reps.none _ _)); intro v267 w9 ho10 hb hg_ hnew_; clear hg_ hnew_; (first | rw [← Ny266.out] at ho10 | (simp only [Int.reduceToNat] at ho10; rw [← Ny266.out] at ho10)); have n_ := zA_ (za (zai ho10 (zp zK150))) (zA_ (za (zq (g := gb262) (o := .cells (zs6 0 0 0 0 0 (.slice none 0 0)) 29 (0, 0)) zG65 hb)) (za (zr zK150 hb))); clear BK262 HB; obtain ⟨HO268, BK262, HB⟩ := n_; clear hb ho10; obtain ⟨hcz11_0, hcz11_1, hcz11_2, hcz11_3, hcz11_4, hcz11_5, hfz11_0, hfz11_1, hfz11_2, hfz11_3, hfz11_4, hfz11_5⟩ := zB6 BK262.out))
  refine bodyPost_ret (results_list (rs := [.tmp 2, .cell 3 29, .tmp 4]) rfl (by simp) (.tmp (.cell gb262 29 (zs6 0 0 0 0 0 (.slice none 0 0)) (0, 0) _ rfl zK95 Try.underlying29 rfl zG83 (.tmp .nil)))) rfl ?_
  exact ⟨_, _, zH68, by (with_reducible repeat (first | apply zk | apply zl | apply zn)); exact zs (zm (p := ⟨gb262, 5, none⟩) (zm (p := ⟨gb262, 4, none⟩) (zm (p := ⟨gb262, 3, none⟩) (zm (p := ⟨gb262, 2, none⟩) (zm (p := ⟨gb262, 1, none⟩) (zm (p := ⟨gb262, 0, none⟩) (zw HO268.out BK262.out zG84) (fun _ hk => hk.2) (.int .i64 0)) (fun _ hk => hk.2) (.int .i64 0)) (fun _ hk => hk.2) (.int .i64 0)) (fun _ hk => hk.2) (.int .i64 0)) (fun _ hk => hk.2) (.int .i64 0)) (fun _ hk => hk.2) (.slice none 0 0)) (fun _ hk => trivial), zH48, zH44⟩
 rw [if_neg c7] at H
 have c7b0 : decide (200 < (l0.length : Int)) = false := decide_eq_false c7
 have c7b1 : decide (200 < l0.length) = false := decide_eq_false (by omega)
 clear c7
 obtain ⟨y270, hy270⟩ : ∃ y_ : List (S36), y_ = (([] : List (S36))) := ⟨_, rfl⟩
 replace H : (spec_StockRun.l0 k l0 y270 0 0 0 0 0 0 ([] : List (S38))) = some (r1, r2, r3, r4, r5, r6, r7, r8) := by first | (rw [hy270]; with_reducible exact H) | (have H2_ := (Option.bind_some _ _).symm.trans H; rw [hy270]; with_reducible exact H2_) | (have H2_ := (Option.bind_some _ _).symm.trans H; with_reducible exact H2_) | with_reducible exact H | (rw [hy270]; exact H) | exact H
 have Ny270 := za hy270
 clear hy270
 have H' := za H
 clear H
 go_enter Try.func11, Try.ntmps11
 go_wp2_with (first | ((with_reducible refine gate_dst (N := 3) rfl ?_); refine box_event ?hg (N := 3) ?hd (cs := (zs6 0 0 0 0 0 (.slice none 0 0))) (t := 29) ?hr ?_; (case hd => rfl); (case hg => rfl); (case hr => exact zH83); intro gb262 hg w12 hbox hb; have n_ := zA_ (za (zr zG60 hb)) (zA_ (za (hbox)) (zA_ (zN1 w.heap.size hg (zp zG60)) (zN1 w.heap.size hg (zp zG60)))); clear HB; obtain ⟨HB, BK262, GW262, GE262⟩ := n_; clear hb hbox hg) | ((with_reducible refine gate_dst (N := 5) rfl ?_); refine box_event ?hg (N := 5) ?hd (cs := (zs6 0 0 0 0 0 (.slice none 0 0))) (t := 29) ?hr ?_; (case hd => rfl); (case hg => rfl); (case hr => exact zH83); intro gb269 hg w13 hbox hb; have n_ := zA_ (za (zq (g := gb262) (o := .cells (zs6 0 0 0 0 0 (.slice none 0 0)) 29 (0, 0)) zG65 hb)) (zA_ (za (zr zK150 hb)) (zA_ (za (hbox)) (zA_ (zN1 w.heap.size hg (zp zK150)) (zA_ (zN1 w.heap.size hg (zp zK150)) (zN2 hg (zv (g := gb262) (o := .cells (zs6 0 0 0 0 0 (.slice none 0 0)) 29 (0, 0)) zG65)))))); clear BK262 HB; obtain ⟨BK262, HB, BK269, GW269, GE269, NB262_269, NB269_262⟩ := n_; clear hb hbox hg; have hnb14 := NB269_262.out; have hnc14 := NB262_269.out; obtain ⟨hcz15_0, hcz15_1, hcz15_2, hcz15_3, hcz15_4, hcz15_5, hfz15_0, hfz15_1, hfz15_2, hfz15_3, hfz15_4, hfz15_5⟩ := zB6 BK269.out) | ((with_reducible refine gate_dst (N := 21) rfl ?_); refine Kd.R_lit k36 _ 36 ?hg (N := 21) ?hd (xs := ([] : List (S36))) (inner := []) (ok := fun _ => True) (okp := fun _ => True) ?hr ?hp (fun _ hk => hk) trivial (Below.refl _ _) (Nat.le_refl _) (by simp) ?_; (case hd => rfl); (case hg => rfl); (case hr => exact zH83); (case hp => exact (Reps.none _ _)); intro v271 w16 ho17 hb hg_ hnew_; clear hg_ hnew_; (first | rw [← Ny270.out] at ho17 | (simp only [Int.reduceToNat] at ho17; rw [← Ny270.out] at ho17)); have n_ := zA_ (za (zai ho17 (zp zG52))) (zA_ (za (zq (g := gb262) (o := .cells (zs6 0 0 0 0 0 (.slice none 0 0)) 29 (0, 0)) (by (with_reducible repeat (first | refine zf ?_ _ | refine zg ?_ | refine ze ?_ _)); refine zt ?_ NB262_269.out _; (with_reducible repeat (first | refine zf ?_ _ | refine zg ?_ | refine ze ?_ _)); refine zt ?_ NB262_269.out _; (with_reducible repeat (first | refine zf ?_ _ | refine zg ?_ | refine ze ?_ _)); refine zt ?_ NB262_269.out _; (with_reducible repeat (first | refine zf ?_ _ | refine zg ?_ | refine ze ?_ _)); refine zt ?_ NB262_269.out _; (with_reducible repeat (first | refine zf ?_ _ | refine zg ?_ | refine ze ?_ _)); refine zt ?_ NB262_269.out _; (with_reducible repeat (first | refine zf ?_ _ | refine zg ?_ | refine ze ?_ _)); refine zt ?_ NB262_269.out _; (with_reducible repeat (first | refine zf ?_ _ | refine zg ?_ | refine ze ?_ _)); exact BK262.out) hb)) (zA_ (za (zq (g := gb269) (o := .cells (zs6 0 0 0 0 0 (.slice none 0 0)) 29 (0, 0)) (by (with_reducible repeat (first | refine zf ?_ _ | refine zg ?_ | refine ze ?_ _)); refine zu (cs := (zs6 0 0 0 0 0 (.slice none 0 0))) ?_ 5 _ rfl; (with_reducible repeat (first | refine zf ?_ _ | refine zg ?_ | refine ze ?_ _)); refine zu (cs := (zs6 0 0 0 0 0 (.slice none 0 0))) ?_ 4 _ rfl; (with_reducible repeat (first | refine zf ?_ _ | refine zg ?_ | refine ze ?_ _)); refine zu (cs := (zs6 0 0 0 0 0 (.slice none 0 0))) ?_ 3 _ rfl; (with_reducible repeat (first | refine zf ?_ _ | refine zg ?_ | refine ze ?_ _)); refine zu (cs := (zs6 0 0 0 0 0 (.slice none 0 0))) ?_ 2 _ rfl; (with_reducible repeat (first | refine zf ?_ _ | refine zg ?_ | refine ze ?_ _)); refine zu (cs := (zs6 0 0 0 0 0 (.slice none 0 0))) ?_ 1 _ rfl; (with_reducible repeat (first | refine zf ?_ _ | refine zg ?_ | refine ze ?_ _)); refine zu (cs := (zs6 0 0 0 0 0 (.slice none 0 0))) ?_ 0 _ rfl; (with_reducible repeat (first | refine zf ?_ _ | refine zg ?_ | refine ze ?_ _)); exact BK269.out) hb)) (za (zr zG52 hb)))); clear BK262 BK269 HB; obtain ⟨HO272, BK262, BK269, HB⟩ := n_; clear hb ho17))
 go_loopg [6, 7] k (fun kq v6 v7 w' => ∃ (x6_1 : List (S36)) (x7_1 : Int) (x270000_1 : Int) (x270001_1 : Int) (x270002_1 : Int) (x270003_1 : Int) (x270004_1 : Int) (x270005_1 : List (S38)) (u270005 : Value), v7 = .int .i64 x7_1 ∧ Aside0 (spec_StockRun.l0 kq l0 x6_1 x7_1 x270000_1 x270001_1 x270002_1 x270003_1 x270004_1 x270005_1 = some (r1, r2, r3, r4, r5, r6, r7, r8)) ∧ Aside0 (kq ≤ k) ∧ Aside0 (Kd.R k36 36 w' w.heap.size (fun _ => True) v6 x6_1) ∧ Aside0 (Kd.R k38 38 w' w.heap.size (fun _ => True) u270005 x270005_1) ∧ Aside0 (w'.heap[gb262]? = some (.cells (zs6 0 0 0 0 0 (.slice none 0 0)) 29 (0, 0))) ∧ Aside0 (w'.heap[gb269]? = some (.cells (zs6 x270000_1 x270001_1 x270002_1 x270003_1 x270004_1 u270005) 29 (0, 0))) ∧ Aside0 (Below w.heap.size w w'))
 case atStart => exact ⟨(y270), (0), (0), (0), (0), (0), (0), (([] : List (S38))), (.slice none 0 0), zG82, H', ⟨Nat.le_refl _⟩, ⟨by (with_reducible repeat (first | apply zk | apply zl | apply zn)); exact HO272.out⟩, ⟨zH48⟩, ⟨by (with_reducible repeat (first | refine zf ?_ _ | refine zg ?_ | refine ze ?_ _)); exact BK262.out⟩, ⟨by (with_reducible repeat (first | refine zf ?_ _ | refine zg ?_ | refine ze ?_ _)); exact BK269.out⟩, ⟨zH21⟩⟩
 case round =>
  clear H'
  try clear c2
  try clear c2b0
  try clear c2b1
  try clear c7
  try clear c7b0
  try clear c7b1
  try clear hcz11_0
  try clear hcz11_1
  try clear hcz11_2
  try clear hcz11_3
  try clear hcz11_4
  try clear hcz11_5
  try clear hcz15_0
  try clear hcz15_1
  try clear hcz15_2
  try clear hcz15_3
  try clear hcz15_4
  try clear hcz15_5
  try clear hcz6_0
  try clear hcz6_1
  try clear hcz6_2
  try clear hcz6_3
  try clear hcz6_4
  try clear hcz6_5
  try clear hfz11_0
  try clear hfz11_1
  try clear hfz11_2
  try clear hfz11_3
  try clear hfz11_4
  try clear hfz11_5
  try clear hfz15_0
  try clear hfz15_1
  try clear hfz15_2
  try clear hfz15_3
  try clear hfz15_4
  try clear hfz15_5
  try clear hfz6_0
  try clear hfz6_1
  try clear hfz6_2
  try clear hfz6_3
  try clear hfz6_4
  try clear hfz6_5
  obtain ⟨x6_1, x7_1, x270000_1, x270001_1, x270002_1, x270003_1, x270004_1, x270005_1, u270005, rfl, HA, HK1, HO_6, HO_270005, BK262, BK269, HB⟩ := hrel
  cases gk with
  | zero => exact absurd HA.out (by simp [spec_StockRun.l0])
  | succ k1 =>
   have H := HA.out
   clear HA
   simp only [spec_StockRun.l0] at H
   by_cases c18 : x7_1 < (l0.length : Int)
   rotate_left
   ·rw [if_neg c18] at H
    have c18b0 := decide_eq_false c18
    clear c18
    simp only [Option.some.injEq, Prod.mk.injEq] at H
    obtain ⟨rfl, rfl, rfl, rfl, rfl, rfl, rfl, rfl⟩ := H
    try go_wp2
    obtain ⟨n0_, n1_, n2_, n3_, n4_⟩ := zD5 (zn HO_6.out) (zn HO_270005.out) (zg BK262.out) (zg BK269.out) (zh HB.out)
    clear HO_6 HO_270005 BK262 BK269 HB
    have HO_6 := n0_; have HO_270005 := n1_; have BK262 := n2_; have BK269 := n3_; have HB := n4_
    clear n0_ n1_ n2_ n3_ n4_
    obtain ⟨Ao53, co53, eo53⟩ := zx HO_270005.out
    (first | subst eo53 | (injection eo53 with f1_ f2_ f3_; have f4_ := f1_.symm; have f5_ := f3_.symm; clear f1_ f2_ f3_; subst f4_; subst f5_))
    refine start_ (n := 5) (S := fun w' => w'.cell? ⟨gb269, 0, none⟩ = some (.int .i64 x270000_1) ∧ w'.cell? ⟨gb269, 1, none⟩ = some (.int .i64 x270001_1) ∧ w'.cell? ⟨gb269, 2, none⟩ = some (.int .i64 x270002_1) ∧ w'.cell? ⟨gb269, 3, none⟩ = some (.int .i64 x270003_1) ∧ w'.cell? ⟨gb269, 4, none⟩ = some (.int .i64 x270004_1) ∧ w'.cell? ⟨gb269, 5, none⟩ = some (.slice Ao53 x270005_1.length co53)) (ds := []) #[false, false, false, false, false] zG83 rfl rfl ⟨(blk_cell BK269.out 0).trans rfl, (blk_cell BK269.out 1).trans rfl, (blk_cell BK269.out 2).trans rfl, (blk_cell BK269.out 3).trans rfl, (blk_cell BK269.out 4).trans rfl, (blk_cell BK269.out 5).trans rfl⟩ (fun hHeld => ?_)
    generalize wr.drew = w47 at HO_6 HO_270005 BK262 BK269 HB hHeld ⊢
    refine pure_ (i := 0) (N := some 42) (v := ?_) (a' := ?_) #[true, false, false, false, false] rfl rfl zG83 (fun _ _ _ h => h) (Or.inl ⟨by rfl, ?_⟩) ?_ ?_
    rotate_left
    ·intro w'
     go_simp
     with_reducible rfl
    rotate_left
    ·simp only [Act.put, List.setIfInBounds_toArray, List.set_cons_zero, List.set_cons_succ, i64_w, i32_w]
     rfl
    refine pure_ (i := 2) (N := some 2) (v := ?_) (a' := ?_) #[true, false, true, false, false] rfl rfl zG83 (fun _ _ _ h => h) (Or.inl ⟨by rfl, ?_⟩) ?_ ?_
    rotate_left
    ·intro w'
     go_simp
     with_reducible rfl
    rotate_left
    ·simp only [Act.put, List.setIfInBounds_toArray, List.set_cons_zero, List.set_cons_succ, i64_w, i32_w]
     rfl
    refine take_ (i := 1) (N := some 43) (v := ?_) (a' := ?_) #[true, true, true, false, false] rfl rfl zG83 (fun _ _ _ h => h) (Or.inl ⟨by rfl, ?_⟩) hHeld ?_ ?_
    rotate_left
    ·rintro w' ⟨s0, s1, s2, s3, s4, s5⟩
     go_simp
     with_reducible rfl
    rotate_left
    ·simp only [Act.put, List.setIfInBounds_toArray, List.set_cons_zero, List.set_cons_succ, i64_w, i32_w]
     rfl
    refine one_ (i := 3) (N := none) #[true, true, true, true, false] rfl rfl zG83 zG84 (fun K hK => ?_)
    have hs48 : w47.cell? ⟨gb262, 0, none⟩ = some (.int .i64 0) := (blk_cell BK262.out 0).trans rfl
    have hfs48 := zc BK262.out 0
    have hns48_1 := NB269_262.out
    have hms48_1 := NB262_269.out
    have hs49 : w47.cell? ⟨gb262, 1, none⟩ = some (.int .i64 0) := (blk_cell BK262.out 1).trans rfl
    have hfs49 := zc BK262.out 1
    have hns49_1 := NB269_262.out
    have hms49_1 := NB262_269.out
    have hs50 : w47.cell? ⟨gb262, 2, none⟩ = some (.int .i64 0) := (blk_cell BK262.out 2).trans rfl
    have hfs50 := zc BK262.out 2
    have hns50_1 := NB269_262.out
    have hms50_1 := NB262_269.out
    have hs51 : w47.cell? ⟨gb262, 3, none⟩ = some (.int .i64 0) := (blk_cell BK262.out 3).trans rfl
    have hfs51 := zc BK262.out 3
    have hns51_1 := NB269_262.out
    have hms51_1 := NB262_269.out
    have hs52 : w47.cell? ⟨gb262, 4, none⟩ = some (.int .i64 0) := (blk_cell BK262.out 4).trans rfl
    have hfs52 := zc BK262.out 4
    have hns52_1 := NB269_262.out
    have hms52_1 := NB262_269.out
    have hs54 : w47.cell? ⟨gb262, 5, none⟩ = some (.slice none 0 0) := (blk_cell BK262.out 5).trans rfl
    have hfs54 := zc BK262.out 5
    have hns54_1 := NB269_262.out
    have hms54_1 := NB262_269.out
    refine skip_ (w1 := ?_) (by rfl) rfl ?_ ?_
    rotate_left
    ·go_simp
     rfl
    refine hK.out _ _ ⟨((cell_far (p := ⟨gb262, _, none⟩) NB269_262.out _).trans (((cell_far (p := ⟨gb262, _, none⟩) NB269_262.out _).trans (((cell_far (p := ⟨gb262, _, none⟩) NB269_262.out _).trans (((cell_far (p := ⟨gb262, _, none⟩) NB269_262.out _).trans (((cell_far (p := ⟨gb262, _, none⟩) NB269_262.out _).trans (((cell_far (p := ⟨gb262, _, none⟩) NB269_262.out _).trans (hHeld.1)))))))))))), ((cell_far (p := ⟨gb262, _, none⟩) NB269_262.out _).trans (((cell_far (p := ⟨gb262, _, none⟩) NB269_262.out _).trans (((cell_far (p := ⟨gb262, _, none⟩) NB269_262.out _).trans (((cell_far (p := ⟨gb262, _, none⟩) NB269_262.out _).trans (((cell_far (p := ⟨gb262, _, none⟩) NB269_262.out _).trans (((cell_far (p := ⟨gb262, _, none⟩) NB269_262.out _).trans (hHeld.2.1)))))))))))), ((cell_far (p := ⟨gb262, _, none⟩) NB269_262.out _).trans (((cell_far (p := ⟨gb262, _, none⟩) NB269_262.out _).trans (((cell_far (p := ⟨gb262, _, none⟩) NB269_262.out _).trans (((cell_far (p := ⟨gb262, _, none⟩) NB269_262.out _).trans (((cell_far (p := ⟨gb262, _, none⟩) NB269_262.out _).trans (((cell_far (p := ⟨gb262, _, none⟩) NB269_262.out _).trans (hHeld.2.2.1)))))))))))), ((cell_far (p := ⟨gb262, _, none⟩) NB269_262.out _).trans (((cell_far (p := ⟨gb262, _, none⟩) NB269_262.out _).trans (((cell_far (p := ⟨gb262, _, none⟩) NB269_262.out _).trans (((cell_far (p := ⟨gb262, _, none⟩) NB269_262.out _).trans (((cell_far (p := ⟨gb262, _, none⟩) NB269_262.out _).trans (((cell_far (p := ⟨gb262, _, none⟩) NB269_262.out _).trans (hHeld.2.2.2.1)))))))))))), ((cell_far (p := ⟨gb262, _, none⟩) NB269_262.out _).trans (((cell_far (p := ⟨gb262, _, none⟩) NB269_262.out _).trans (((cell_far (p := ⟨gb262, _, none⟩) NB269_262.out _).trans (((cell_far (p := ⟨gb262, _, none⟩) NB269_262.out _).trans (((cell_far (p := ⟨gb262, _, none⟩) NB269_262.out _).trans (((cell_far (p := ⟨gb262, _, none⟩) NB269_262.out _).trans (hHeld.2.2.2.2.1)))))))))))), ((cell_far (p := ⟨gb262, _, none⟩) NB269_262.out _).trans (((cell_far (p := ⟨gb262, _, none⟩) NB269_262.out _).trans (((cell_far (p := ⟨gb262, _, none⟩) NB269_262.out _).trans (((cell_far (p := ⟨gb262, _, none⟩) NB269_262.out _).trans (((cell_far (p := ⟨gb262, _, none⟩) NB269_262.out _).trans (((cell_far (p := ⟨gb262, _, none⟩) NB269_262.out _).trans (hHeld.2.2.2.2.2))))))))))))⟩ (fun hHeld => ?_)
    clear hK K
    refine pure_ (i := 4) (N := some 4) (v := ?_) (a' := ?_) #[true, true, true, true, true] rfl rfl zG83 (fun _ _ _ h => h) (Or.inl ⟨by rfl, ?_⟩) ?_ ?_
    rotate_left
    ·intro w'
     go_simp
     with_reducible rfl
    rotate_left
    ·simp only [Act.put, List.setIfInBounds_toArray, List.set_cons_zero, List.set_cons_succ, i64_w, i32_w]
     rfl
    refine done_ zG83 ?_
    try go_wp2
    refine bodyPost_ret (results_list (rs := [.tmp 2, .cell 3 29, .tmp 4]) rfl (by simp) (.tmp (.cell gb262 29 (zs6 x270000_1 x270001_1 x270002_1 x270003_1 x270004_1 (.slice Ao53 x270005_1.length co53)) (0, 0) _ rfl (by (with_reducible repeat (first | refine zf ?_ _ | refine zg ?_ | refine ze ?_ _)); refine zu (cs := (zs6 x270000_1 x270001_1 x270002_1 x270003_1 x270004_1 (.slice none 0 0))) ?_ 5 _ rfl; (with_reducible repeat (first | refine zf ?_ _ | refine zg ?_ | refine ze ?_ _)); refine zu (cs := (zs6 x270000_1 x270001_1 x270002_1 x270003_1 0 (.slice none 0 0))) ?_ 4 _ rfl; (with_reducible repeat (first | refine zf ?_ _ | refine zg ?_ | refine ze ?_ _)); refine zu (cs := (zs6 x270000_1 x270001_1 x270002_1 0 0 (.slice none 0 0))) ?_ 3 _ rfl; (with_reducible repeat (first | refine zf ?_ _ | refine zg ?_ | refine ze ?_ _)); refine zu (cs := (zs6 x270000_1 x270001_1 0 0 0 (.slice none 0 0))) ?_ 2 _ rfl; (with_reducible repeat (first | refine zf ?_ _ | refine zg ?_ | refine ze ?_ _)); refine zu (cs := (zs6 x270000_1 0 0 0 0 (.slice none 0 0))) ?_ 1 _ rfl; (with_reducible repeat (first | refine zf ?_ _ | refine zg ?_ | refine ze ?_ _)); refine zu (cs := (zs6 0 0 0 0 0 (.slice none 0 0))) ?_ 0 _ rfl; (with_reducible repeat (first | refine zf ?_ _ | refine zg ?_ | refine ze ?_ _)); exact BK262.out) Try.underlying29 rfl zG83 (.tmp .nil)))) rfl ?_
    exact ⟨_, _, zH68, by (with_reducible repeat (first | apply zk | apply zl | apply zn)); exact zs (zm (p := ⟨gb262, 5, none⟩) (zm (p := ⟨gb262, 4, none⟩) (zm (p := ⟨gb262, 3, none⟩) (zm (p := ⟨gb262, 2, none⟩) (zm (p := ⟨gb262, 1, none⟩) (zm (p := ⟨gb262, 0, none⟩) (zw HO_6.out BK262.out zG84) (fun _ hk => hk.2) (.int .i64 x270000_1)) (fun _ hk => hk.2) (.int .i64 x270001_1)) (fun _ hk => hk.2) (.int .i64 x270002_1)) (fun _ hk => hk.2) (.int .i64 x270003_1)) (fun _ hk => hk.2) (.int .i64 x270004_1)) (fun _ hk => hk.2) (.slice Ao53 x270005_1.length co53)) (fun _ hk => trivial), by (with_reducible repeat (first | apply zk | apply zl | apply zn)); exact zs (zm (p := ⟨gb262, 5, none⟩) (zm (p := ⟨gb262, 4, none⟩) (zm (p := ⟨gb262, 3, none⟩) (zm (p := ⟨gb262, 2, none⟩) (zm (p := ⟨gb262, 1, none⟩) (zm (p := ⟨gb262, 0, none⟩) (zw HO_270005.out BK262.out zG84) (fun _ hk => hk.2) (.int .i64 x270000_1)) (fun _ hk => hk.2) (.int .i64 x270001_1)) (fun _ hk => hk.2) (.int .i64 x270002_1)) (fun _ hk => hk.2) (.int .i64 x270003_1)) (fun _ hk => hk.2) (.int .i64 x270004_1)) (fun _ hk => hk.2) (.slice Ao53 x270005_1.length co53)) (fun _ hk => trivial), zH21⟩
   rw [if_pos c18] at H
   have c18b0 := decide_eq_true c18
   clear c18
   by_cases c19 : 0 ≤ x7_1
   rotate_left
   ·rw [if_neg c19] at H
    exact absurd H (by simp)
   rw [if_pos c19] at H
   have c19b0 := decide_eq_true c19
   clear c19
   replace H := Option.bind_eq_some_iff.mp H
   obtain ⟨⟨t274, t275, t276, t277, t278, t279, t282, t283⟩, A200, H⟩ := H
   replace H : (if x6_1.length < 8796093022208 then (spec_StockRun.l0 k1 l0 (x6_1 ++ [(⟨t282, t283⟩ : S36)]) (wrap64 (x7_1 + 1)) t274 t275 t276 t277 t278 t279) else (none)) = some (r1, r2, r3, r4, r5, r6, r7, r8) := H
   have A20 := za A200
   clear A200
   by_cases c21 : x6_1.length < 8796093022208
   rotate_left
   ·rw [if_neg c21] at H
    exact absurd H (by simp)
   rw [if_pos c21] at H
   have LMc21 := za c21
   clear c21
   obtain ⟨y286, hy286⟩ : ∃ y_ : List (S36), y_ = (x6_1 ++ [(⟨t282, t283⟩ : S36)]) := ⟨_, rfl⟩
   replace H : (spec_StockRun.l0 k1 l0 y286 (wrap64 (x7_1 + 1)) t274 t275 t276 t277 t278 t279) = some (r1, r2, r3, r4, r5, r6, r7, r8) := by first | (rw [hy286]; with_reducible exact H) | (have H2_ := (Option.bind_some _ _).symm.trans H; rw [hy286]; with_reducible exact H2_) | (have H2_ := (Option.bind_some _ _).symm.trans H; with_reducible exact H2_) | with_reducible exact H | (rw [hy286]; exact H) | exact H
   have Ny286 := za hy286
   clear hy286
   have H' := za H
   clear H
   obtain ⟨Ao22, co22, eo22⟩ := zx HO_270005.out
   subst eo22
   try go_wp2
   obtain ⟨n0_, n1_, n2_, n3_, n4_⟩ := zD5 (zn HO_6.out) (zn HO_270005.out) (zg BK262.out) (zg BK269.out) (zh HB.out)
   clear HO_6 HO_270005 BK262 BK269 HB
   have HO_6 := n0_; have HO_270005 := n1_; have BK262 := n2_; have BK269 := n3_; have HB := n4_
   clear n0_ n1_ n2_ n3_ n4_
   have p273 : 0 ≤ (x7_1 : Int) := zO
   have q273 : x7_1 < (l0.length : Int) := zO
   obtain ⟨ad273, e273, hx273_0, hx273_1, hx273_2, hx273_3, hx273_4⟩ := at_T34 HR0.out x7_1 p273 q273
   have hw273_4 := hx273_4
   have hw273_3 := hx273_3
   have hw273_2 := hx273_2
   have hw273_1 := hx273_1
   have hw273_0 := hx273_0
   cases e273
   replace hx273_0 := (HB.out.cell (zb w _ hx273_0)).trans hx273_0
   replace hx273_1 := (HB.out.cell (zb w _ hx273_1)).trans hx273_1
   replace hx273_2 := (HB.out.cell (zb w _ hx273_2)).trans hx273_2
   replace hx273_3 := (HB.out.cell (zb w _ hx273_3)).trans hx273_3
   replace hx273_4 := (HB.out.cell (zb w _ hx273_4)).trans hx273_4
   replace p273 := eq_true p273
   replace q273 := eq_true q273
   refine start_ (n := 13) (S := fun w' => w'.cell? ⟨gb269, 0, none⟩ = some (.int .i64 x270000_1) ∧ w'.cell? ⟨gb269, 1, none⟩ = some (.int .i64 x270001_1) ∧ w'.cell? ⟨gb269, 2, none⟩ = some (.int .i64 x270002_1) ∧ w'.cell? ⟨gb269, 3, none⟩ = some (.int .i64 x270003_1) ∧ w'.cell? ⟨gb269, 4, none⟩ = some (.int .i64 x270004_1) ∧ w'.cell? ⟨gb269, 5, none⟩ = some (.slice Ao22 x270005_1.length co22) ∧ w'.cell? (ad273.add ((x7_1).toNat * 5)) = some (.int .i64 ((rd_T34 l0 x7_1).f0)) ∧ w'.cell? ⟨(ad273.add ((x7_1).toNat * 5)).block, (ad273.add ((x7_1).toNat * 5)).off + 1, none⟩ = some (.string ((rd_T34 l0 x7_1).f1)) ∧ w'.cell? ⟨(ad273.add ((x7_1).toNat * 5)).block, (ad273.add ((x7_1).toNat * 5)).off + 2, none⟩ = some (.int .i64 ((rd_T34 l0 x7_1).f2)) ∧ w'.cell? ⟨(ad273.add ((x7_1).toNat * 5)).block, (ad273.add ((x7_1).toNat * 5)).off + 3, none⟩ = some (.int .i64 ((rd_T34 l0 x7_1).f3)) ∧ w'.cell? ⟨(ad273.add ((x7_1).toNat * 5)).block, (ad273.add ((x7_1).toNat * 5)).off + 4, none⟩ = some (.int .i64 ((rd_T34 l0 x7_1).f4))) (ds := []) #[false, false, false, false, false, false, false, false, false, false, false, false, false] zG83 rfl rfl ⟨(blk_cell BK269.out 0).trans rfl, (blk_cell BK269.out 1).trans rfl, (blk_cell BK269.out 2).trans rfl, (blk_cell BK269.out 3).trans rfl, (blk_cell BK269.out 4).trans rfl, (blk_cell BK269.out 5).trans rfl, ((HB.out.cell (zb w _ hw273_0)).trans hw273_0), ((HB.out.cell (zb w _ hw273_1)).trans hw273_1), ((HB.out.cell (zb w _ hw273_2)).trans hw273_2), ((HB.out.cell (zb w _ hw273_3)).trans hw273_3), ((HB.out.cell (zb w _ hw273_4)).trans hw273_4)⟩ (fun hHeld => ?_); refine with_tabW spec_StockRun.tab10 spec_StockRun.bits10 (fun HT_ HW_ => ?_)
   generalize wr.drew = w23 at HO_6 HO_270005 BK262 BK269 HB hx273_0 hx273_1 hx273_2 hx273_3 hx273_4 hHeld ⊢
   refine zP 1 30 #[false, true, false, false, false, false, false, false, false, false, false, false, false] HT_ ?_
   refine zP 2 31 #[false, true, true, false, false, false, false, false, false, false, false, false, false] HT_ ?_
   refine zP 3 32 #[false, true, true, true, false, false, false, false, false, false, false, false, false] HT_ ?_
   refine zQ 0 29 #[true, true, true, true, false, false, false, false, false, false, false, false, false] HT_ HW_ hHeld ?_
   refine zQ 4 33 #[true, true, true, true, true, false, false, false, false, false, false, false, false] HT_ HW_ hHeld ?_
   refine join_ (σ := Value × Nat × Nat) 2 b13A0 (fun s_ => [(34, .tuple #[.agg (zs6 t274 t275 t276 t277 t278 s_.1), .agg (zo2 t282 t283)]), (8, .pointer (some ⟨s_.2.1, 0, none⟩)), (9, .pointer (some ⟨s_.2.2, 0, none⟩)), (28, .tuple #[.agg (zs6 t274 t275 t276 t277 t278 s_.1), .agg (zo2 t282 t283)]), (35, .agg (zs6 t274 t275 t276 t277 t278 s_.1)), (36, .agg (zo2 t282 t283))]) (fun s_ w' => (w'.cell? ⟨gb269, 0, none⟩ = some (.int .i64 x270000_1) ∧ w'.cell? ⟨gb269, 1, none⟩ = some (.int .i64 x270001_1) ∧ w'.cell? ⟨gb269, 2, none⟩ = some (.int .i64 x270002_1) ∧ w'.cell? ⟨gb269, 3, none⟩ = some (.int .i64 x270003_1) ∧ w'.cell? ⟨gb269, 4, none⟩ = some (.int .i64 x270004_1) ∧ w'.cell? ⟨gb269, 5, none⟩ = some (.slice Ao22 x270005_1.length co22) ∧ w'.cell? (ad273.add ((x7_1).toNat * 5)) = some (.int .i64 ((rd_T34 l0 x7_1).f0)) ∧ w'.cell? ⟨(ad273.add ((x7_1).toNat * 5)).block, (ad273.add ((x7_1).toNat * 5)).off + 1, none⟩ = some (.string ((rd_T34 l0 x7_1).f1)) ∧ w'.cell? ⟨(ad273.add ((x7_1).toNat * 5)).block, (ad273.add ((x7_1).toNat * 5)).off + 2, none⟩ = some (.int .i64 ((rd_T34 l0 x7_1).f2)) ∧ w'.cell? ⟨(ad273.add ((x7_1).toNat * 5)).block, (ad273.add ((x7_1).toNat * 5)).off + 3, none⟩ = some (.int .i64 ((rd_T34 l0 x7_1).f3)) ∧ w'.cell? ⟨(ad273.add ((x7_1).toNat * 5)).block, (ad273.add ((x7_1).toNat * 5)).off + 4, none⟩ = some (.int .i64 ((rd_T34 l0 x7_1).f4))) ∧ (Kd.R k38 38 w' w.heap.size (fun _ => True) s_.1 t279) ∧ (Kd.R k36 36 w' w.heap.size (fun k_ => k_ ≠ s_.2.2) u6 x6_1) ∧ (w'.heap[gb262]? = some (.cells (zs6 0 0 0 0 0 (.slice none 0 0)) 29 (0, 0))) ∧ (w'.heap[gb269]? = some (.cells (zs6 x270000_1 x270001_1 x270002_1 x270003_1 x270004_1 (.slice Ao22 x270005_1.length co22)) 29 (0, 0))) ∧ (w'.heap[s_.2.1]? = some (.cells (zs6 0 0 0 0 0 (.slice none 0 0)) 29 (0, 0))) ∧ (w'.heap[s_.2.2]? = some (.cells (zo2 0 0) 36 (0, 0))) ∧ (w.heap.size ≤ s_.2.1) ∧ (w.heap.size ≤ s_.2.1) ∧ (gb262 ≠ s_.2.1) ∧ (s_.2.1 ≠ gb262) ∧ (gb269 ≠ s_.2.1) ∧ (s_.2.1 ≠ gb269) ∧ (s_.2.2 ≠ s_.2.1) ∧ (s_.2.1 ≠ s_.2.2) ∧ (w.heap.size ≤ s_.2.2) ∧ (w.heap.size ≤ s_.2.2) ∧ (gb262 ≠ s_.2.2) ∧ (s_.2.2 ≠ gb262) ∧ (gb269 ≠ s_.2.2) ∧ (s_.2.2 ≠ gb269) ∧ (Below w.heap.size w w')) ?_ ?_
   rotate_left
   ·intro hJ5_9_10
    refine join_ (σ := Value × Nat) 3 b13A1 (fun s_ => [(34, .tuple #[.agg (zs6 t274 t275 t276 t277 t278 s_.1), .agg (zo2 t282 t283)]), (8, .pointer (some ⟨s_.2, 0, none⟩)), (28, .tuple #[.agg (zs6 t274 t275 t276 t277 t278 s_.1), .agg (zo2 t282 t283)]), (35, .agg (zs6 t274 t275 t276 t277 t278 s_.1)), (36, .agg (zo2 t282 t283))]) (fun s_ w' => (w'.cell? ⟨gb269, 0, none⟩ = some (.int .i64 x270000_1) ∧ w'.cell? ⟨gb269, 1, none⟩ = some (.int .i64 x270001_1) ∧ w'.cell? ⟨gb269, 2, none⟩ = some (.int .i64 x270002_1) ∧ w'.cell? ⟨gb269, 3, none⟩ = some (.int .i64 x270003_1) ∧ w'.cell? ⟨gb269, 4, none⟩ = some (.int .i64 x270004_1) ∧ w'.cell? ⟨gb269, 5, none⟩ = some (.slice Ao22 x270005_1.length co22) ∧ w'.cell? (ad273.add ((x7_1).toNat * 5)) = some (.int .i64 ((rd_T34 l0 x7_1).f0)) ∧ w'.cell? ⟨(ad273.add ((x7_1).toNat * 5)).block, (ad273.add ((x7_1).toNat * 5)).off + 1, none⟩ = some (.string ((rd_T34 l0 x7_1).f1)) ∧ w'.cell? ⟨(ad273.add ((x7_1).toNat * 5)).block, (ad273.add ((x7_1).toNat * 5)).off + 2, none⟩ = some (.int .i64 ((rd_T34 l0 x7_1).f2)) ∧ w'.cell? ⟨(ad273.add ((x7_1).toNat * 5)).block, (ad273.add ((x7_1).toNat * 5)).off + 3, none⟩ = some (.int .i64 ((rd_T34 l0 x7_1).f3)) ∧ w'.cell? ⟨(ad273.add ((x7_1).toNat * 5)).block, (ad273.add ((x7_1).toNat * 5)).off + 4, none⟩ = some (.int .i64 ((rd_T34 l0 x7_1).f4))) ∧ (Kd.R k38 38 w' w.heap.size (fun _ => True) s_.1 t279) ∧ (Kd.R k36 36 w' w.heap.size (fun _ => True) u6 x6_1) ∧ (w'.heap[gb262]? = some (.cells (zs6 0 0 0 0 0 (.slice none 0 0)) 29 (0, 0))) ∧ (w'.heap[gb269]? = some (.cells (zs6 x270000_1 x270001_1 x270002_1 x270003_1 x270004_1 (.slice Ao22 x270005_1.length co22)) 29 (0, 0))) ∧ (w'.heap[s_.2]? = some (.cells (zs6 0 0 0 0 0 (.slice none 0 0)) 29 (0, 0))) ∧ (w.heap.size ≤ s_.2) ∧ (w.heap.size ≤ s_.2) ∧ (gb262 ≠ s_.2) ∧ (s_.2 ≠ gb262) ∧ (gb269 ≠ s_.2) ∧ (s_.2 ≠ gb269) ∧ (Below w.heap.size w w')) ?_ ?_
    rotate_left
    ·intro hJ5_9
     refine join_ (σ := Value × Nat) 3 b13A2 (fun s_ => [(34, .tuple #[.agg (zs6 t274 t275 t276 t277 t278 s_.1), .agg (zo2 t282 t283)]), (9, .pointer (some ⟨s_.2, 0, none⟩)), (28, .tuple #[.agg (zs6 t274 t275 t276 t277 t278 s_.1), .agg (zo2 t282 t283)]), (35, .agg (zs6 t274 t275 t276 t277 t278 s_.1)), (36, .agg (zo2 t282 t283))]) (fun s_ w' => (w'.cell? ⟨gb269, 0, none⟩ = some (.int .i64 x270000_1) ∧ w'.cell? ⟨gb269, 1, none⟩ = some (.int .i64 x270001_1) ∧ w'.cell? ⟨gb269, 2, none⟩ = some (.int .i64 x270002_1) ∧ w'.cell? ⟨gb269, 3, none⟩ = some (.int .i64 x270003_1) ∧ w'.cell? ⟨gb269, 4, none⟩ = some (.int .i64 x270004_1) ∧ w'.cell? ⟨gb269, 5, none⟩ = some (.slice Ao22 x270005_1.length co22) ∧ w'.cell? (ad273.add ((x7_1).toNat * 5)) = some (.int .i64 ((rd_T34 l0 x7_1).f0)) ∧ w'.cell? ⟨(ad273.add ((x7_1).toNat * 5)).block, (ad273.add ((x7_1).toNat * 5)).off + 1, none⟩ = some (.string ((rd_T34 l0 x7_1).f1)) ∧ w'.cell? ⟨(ad273.add ((x7_1).toNat * 5)).block, (ad273.add ((x7_1).toNat * 5)).off + 2, none⟩ = some (.int .i64 ((rd_T34 l0 x7_1).f2)) ∧ w'.cell? ⟨(ad273.add ((x7_1).toNat * 5)).block, (ad273.add ((x7_1).toNat * 5)).off + 3, none⟩ = some (.int .i64 ((rd_T34 l0 x7_1).f3)) ∧ w'.cell? ⟨(ad273.add ((x7_1).toNat * 5)).block, (ad273.add ((x7_1).toNat * 5)).off + 4, none⟩ = some (.int .i64 ((rd_T34 l0 x7_1).f4))) ∧ (Kd.R k38 38 w' w.heap.size (fun _ => True) s_.1 t279) ∧ (Kd.R k36 36 w' w.heap.size (fun k_ => k_ ≠ s_.2) u6 x6_1) ∧ (w'.heap[gb262]? = some (.cells (zs6 0 0 0 0 0 (.slice none 0 0)) 29 (0, 0))) ∧ (w'.heap[gb269]? = some (.cells (zs6 x270000_1 x270001_1 x270002_1 x270003_1 x270004_1 (.slice Ao22 x270005_1.length co22)) 29 (0, 0))) ∧ (w'.heap[s_.2]? = some (.cells (zo2 0 0) 36 (0, 0))) ∧ (w.heap.size ≤ s_.2) ∧ (w.heap.size ≤ s_.2) ∧ (gb262 ≠ s_.2) ∧ (s_.2 ≠ gb262) ∧ (gb269 ≠ s_.2) ∧ (s_.2 ≠ gb269) ∧ (Below w.heap.size w w')) ?_ ?_
     rotate_left
     ·intro hJ5_10
      refine join_ (σ := Nat × Nat) 6 b13A3 (fun s_ => [(8, .pointer (some ⟨s_.1, 0, none⟩)), (9, .pointer (some ⟨s_.2, 0, none⟩))]) (fun s_ w' => (w'.cell? ⟨gb269, 0, none⟩ = some (.int .i64 x270000_1) ∧ w'.cell? ⟨gb269, 1, none⟩ = some (.int .i64 x270001_1) ∧ w'.cell? ⟨gb269, 2, none⟩ = some (.int .i64 x270002_1) ∧ w'.cell? ⟨gb269, 3, none⟩ = some (.int .i64 x270003_1) ∧ w'.cell? ⟨gb269, 4, none⟩ = some (.int .i64 x270004_1) ∧ w'.cell? ⟨gb269, 5, none⟩ = some (.slice Ao22 x270005_1.length co22) ∧ w'.cell? (ad273.add ((x7_1).toNat * 5)) = some (.int .i64 ((rd_T34 l0 x7_1).f0)) ∧ w'.cell? ⟨(ad273.add ((x7_1).toNat * 5)).block, (ad273.add ((x7_1).toNat * 5)).off + 1, none⟩ = some (.string ((rd_T34 l0 x7_1).f1)) ∧ w'.cell? ⟨(ad273.add ((x7_1).toNat * 5)).block, (ad273.add ((x7_1).toNat * 5)).off + 2, none⟩ = some (.int .i64 ((rd_T34 l0 x7_1).f2)) ∧ w'.cell? ⟨(ad273.add ((x7_1).toNat * 5)).block, (ad273.add ((x7_1).toNat * 5)).off + 3, none⟩ = some (.int .i64 ((rd_T34 l0 x7_1).f3)) ∧ w'.cell? ⟨(ad273.add ((x7_1).toNat * 5)).block, (ad273.add ((x7_1).toNat * 5)).off + 4, none⟩ = some (.int .i64 ((rd_T34 l0 x7_1).f4))) ∧ (Kd.R k38 38 w' w.heap.size (fun _ => True) (.slice Ao22 x270005_1.length co22) x270005_1) ∧ (Kd.R k36 36 w' w.heap.size (fun k_ => k_ ≠ s_.2) u6 x6_1) ∧ (w'.heap[gb262]? = some (.cells (zs6 0 0 0 0 0 (.slice none 0 0)) 29 (0, 0))) ∧ (w'.heap[gb269]? = some (.cells (zs6 x270000_1 x270001_1 x270002_1 x270003_1 x270004_1 (.slice Ao22 x270005_1.length co22)) 29 (0, 0))) ∧ (w'.heap[s_.1]? = some (.cells (zs6 0 0 0 0 0 (.slice none 0 0)) 29 (0, 0))) ∧ (w'.heap[s_.2]? = some (.cells (zo2 0 0) 36 (0, 0))) ∧ (w.heap.size ≤ s_.1) ∧ (w.heap.size ≤ s_.1) ∧ (gb262 ≠ s_.1) ∧ (s_.1 ≠ gb262) ∧ (gb269 ≠ s_.1) ∧ (s_.1 ≠ gb269) ∧ (s_.2 ≠ s_.1) ∧ (s_.1 ≠ s_.2) ∧ (w.heap.size ≤ s_.2) ∧ (w.heap.size ≤ s_.2) ∧ (gb262 ≠ s_.2) ∧ (s_.2 ≠ gb262) ∧ (gb269 ≠ s_.2) ∧ (s_.2 ≠ gb269) ∧ (Below w.heap.size w w')) ?_ ?_
      rotate_left
      ·intro hJ9_10
       refine join_ (σ := Value) 4 b13A4 (fun s_ => [(34, .tuple #[.agg (zs6 t274 t275 t276 t277 t278 s_), .agg (zo2 t282 t283)]), (28, .tuple #[.agg (zs6 t274 t275 t276 t277 t278 s_), .agg (zo2 t282 t283)]), (35, .agg (zs6 t274 t275 t276 t277 t278 s_)), (36, .agg (zo2 t282 t283))]) (fun s_ w' => (w'.cell? ⟨gb269, 0, none⟩ = some (.int .i64 x270000_1) ∧ w'.cell? ⟨gb269, 1, none⟩ = some (.int .i64 x270001_1) ∧ w'.cell? ⟨gb269, 2, none⟩ = some (.int .i64 x270002_1) ∧ w'.cell? ⟨gb269, 3, none⟩ = some (.int .i64 x270003_1) ∧ w'.cell? ⟨gb269, 4, none⟩ = some (.int .i64 x270004_1) ∧ w'.cell? ⟨gb269, 5, none⟩ = some (.slice Ao22 x270005_1.length co22) ∧ w'.cell? (ad273.add ((x7_1).toNat * 5)) = some (.int .i64 ((rd_T34 l0 x7_1).f0)) ∧ w'.cell? ⟨(ad273.add ((x7_1).toNat * 5)).block, (ad273.add ((x7_1).toNat * 5)).off + 1, none⟩ = some (.string ((rd_T34 l0 x7_1).f1)) ∧ w'.cell? ⟨(ad273.add ((x7_1).toNat * 5)).block, (ad273.add ((x7_1).toNat * 5)).off + 2, none⟩ = some (.int .i64 ((rd_T34 l0 x7_1).f2)) ∧ w'.cell? ⟨(ad273.add ((x7_1).toNat * 5)).block, (ad273.add ((x7_1).toNat * 5)).off + 3, none⟩ = some (.int .i64 ((rd_T34 l0 x7_1).f3)) ∧ w'.cell? ⟨(ad273.add ((x7_1).toNat * 5)).block, (ad273.add ((x7_1).toNat * 5)).off + 4, none⟩ = some (.int .i64 ((rd_T34 l0 x7_1).f4))) ∧ (Kd.R k38 38 w' w.heap.size (fun _ => True) s_ t279) ∧ (Kd.R k36 36 w' w.heap.size (fun _ => True) u6 x6_1) ∧ (w'.heap[gb262]? = some (.cells (zs6 0 0 0 0 0 (.slice none 0 0)) 29 (0, 0))) ∧ (w'.heap[gb269]? = some (.cells (zs6 x270000_1 x270001_1 x270002_1 x270003_1 x270004_1 (.slice Ao22 x270005_1.length co22)) 29 (0, 0))) ∧ (Below w.heap.size w w')) ?_ ?_
       rotate_left
       ·intro hJ5
        refine join_ (σ := Nat) 7 b13A5 (fun s_ => [(8, .pointer (some ⟨s_, 0, none⟩))]) (fun s_ w' => (w'.cell? ⟨gb269, 0, none⟩ = some (.int .i64 x270000_1) ∧ w'.cell? ⟨gb269, 1, none⟩ = some (.int .i64 x270001_1) ∧ w'.cell? ⟨gb269, 2, none⟩ = some (.int .i64 x270002_1) ∧ w'.cell? ⟨gb269, 3, none⟩ = some (.int .i64 x270003_1) ∧ w'.cell? ⟨gb269, 4, none⟩ = some (.int .i64 x270004_1) ∧ w'.cell? ⟨gb269, 5, none⟩ = some (.slice Ao22 x270005_1.length co22) ∧ w'.cell? (ad273.add ((x7_1).toNat * 5)) = some (.int .i64 ((rd_T34 l0 x7_1).f0)) ∧ w'.cell? ⟨(ad273.add ((x7_1).toNat * 5)).block, (ad273.add ((x7_1).toNat * 5)).off + 1, none⟩ = some (.string ((rd_T34 l0 x7_1).f1)) ∧ w'.cell? ⟨(ad273.add ((x7_1).toNat * 5)).block, (ad273.add ((x7_1).toNat * 5)).off + 2, none⟩ = some (.int .i64 ((rd_T34 l0 x7_1).f2)) ∧ w'.cell? ⟨(ad273.add ((x7_1).toNat * 5)).block, (ad273.add ((x7_1).toNat * 5)).off + 3, none⟩ = some (.int .i64 ((rd_T34 l0 x7_1).f3)) ∧ w'.cell? ⟨(ad273.add ((x7_1).toNat * 5)).block, (ad273.add ((x7_1).toNat * 5)).off + 4, none⟩ = some (.int .i64 ((rd_T34 l0 x7_1).f4))) ∧ (Kd.R k38 38 w' w.heap.size (fun _ => True) (.slice Ao22 x270005_1.length co22) x270005_1) ∧ (Kd.R k36 36 w' w.heap.size (fun _ => True) u6 x6_1) ∧ (w'.heap[gb262]? = some (.cells (zs6 0 0 0 0 0 (.slice none 0 0)) 29 (0, 0))) ∧ (w'.heap[gb269]? = some (.cells (zs6 x270000_1 x270001_1 x270002_1 x270003_1 x270004_1 (.slice Ao22 x270005_1.length co22)) 29 (0, 0))) ∧ (w'.heap[s_]? = some (.cells (zs6 0 0 0 0 0 (.slice none 0 0)) 29 (0, 0))) ∧ (w.heap.size ≤ s_) ∧ (w.heap.size ≤ s_) ∧ (gb262 ≠ s_) ∧ (s_ ≠ gb262) ∧ (gb269 ≠ s_) ∧ (s_ ≠ gb269) ∧ (Below w.heap.size w w')) ?_ ?_
        rotate_left
        ·intro hJ9
         refine join_ (σ := Nat) 7 b13A6 (fun s_ => [(9, .pointer (some ⟨s_, 0, none⟩))]) (fun s_ w' => (w'.cell? ⟨gb269, 0, none⟩ = some (.int .i64 x270000_1) ∧ w'.cell? ⟨gb269, 1, none⟩ = some (.int .i64 x270001_1) ∧ w'.cell? ⟨gb269, 2, none⟩ = some (.int .i64 x270002_1) ∧ w'.cell? ⟨gb269, 3, none⟩ = some (.int .i64 x270003_1) ∧ w'.cell? ⟨gb269, 4, none⟩ = some (.int .i64 x270004_1) ∧ w'.cell? ⟨gb269, 5, none⟩ = some (.slice Ao22 x270005_1.length co22) ∧ w'.cell? (ad273.add ((x7_1).toNat * 5)) = some (.int .i64 ((rd_T34 l0 x7_1).f0)) ∧ w'.cell? ⟨(ad273.add ((x7_1).toNat * 5)).block, (ad273.add ((x7_1).toNat * 5)).off + 1, none⟩ = some (.string ((rd_T34 l0 x7_1).f1)) ∧ w'.cell? ⟨(ad273.add ((x7_1).toNat * 5)).block, (ad273.add ((x7_1).toNat * 5)).off + 2, none⟩ = some (.int .i64 ((rd_T34 l0 x7_1).f2)) ∧ w'.cell? ⟨(ad273.add ((x7_1).toNat * 5)).block, (ad273.add ((x7_1).toNat * 5)).off + 3, none⟩ = some (.int .i64 ((rd_T34 l0 x7_1).f3)) ∧ w'.cell? ⟨(ad273.add ((x7_1).toNat * 5)).block, (ad273.add ((x7_1).toNat * 5)).off + 4, none⟩ = some (.int .i64 ((rd_T34 l0 x7_1).f4))) ∧ (Kd.R k38 38 w' w.heap.size (fun _ => True) (.slice Ao22 x270005_1.length co22) x270005_1) ∧ (Kd.R k36 36 w' w.heap.size (fun k_ => k_ ≠ s_) u6 x6_1) ∧ (w'.heap[gb262]? = some (.cells (zs6 0 0 0 0 0 (.slice none 0 0)) 29 (0, 0))) ∧ (w'.heap[gb269]? = some (.cells (zs6 x270000_1 x270001_1 x270002_1 x270003_1 x270004_1 (.slice Ao22 x270005_1.length co22)) 29 (0, 0))) ∧ (w'.heap[s_]? = some (.cells (zo2 0 0) 36 (0, 0))) ∧ (w.heap.size ≤ s_) ∧ (w.heap.size ≤ s_) ∧ (gb262 ≠ s_) ∧ (s_ ≠ gb262) ∧ (gb269 ≠ s_) ∧ (s_ ≠ gb269) ∧ (Below w.heap.size w w')) ?_ ?_
         rotate_left
         ·intro hJ10
          refine three_ (i := 5) (j := 9) (k := 10) (Ni := some 34) (Nj := some 8) (Nk := some 9) #[true, true, true, true, true, true, false, false, false, false, false, false, false] b13A5 b13A6 rfl rfl rfl rfl rfl rfl (three_of HT_.out zG83) zG84 zG84 zG84 (fun K hK => ?_) (fun K hK => ?_) (fun K hK => ?_)
          ·skip
           refine goes_ Try.func26 zG83 rfl #[.agg (zs6 x270000_1 x270001_1 x270002_1 x270003_1 x270004_1 (.slice Ao22 x270005_1.length co22)), .agg (za5 ((rd_T34 l0 x7_1).f0) ((rd_T34 l0 x7_1).f1) ((rd_T34 l0 x7_1).f2) ((rd_T34 l0 x7_1).f3) ((rd_T34 l0 x7_1).f4))] (by rfl) rfl rfl zG54 ?_
           with_reducible refine (spec_l14Act.calls k1 x270000_1 x270001_1 x270002_1 x270003_1 x270004_1 (fun k_ => some k_ = (.slice Ao22 x270005_1.length co22 : Value).ownBlock) (.slice Ao22 x270005_1.length co22) x270005_1 ((rd_T34 l0 x7_1).f0) ((rd_T34 l0 x7_1).f1) ((rd_T34 l0 x7_1).f2) ((rd_T34 l0 x7_1).f3) ((rd_T34 l0 x7_1).f4) t274 t275 t276 t277 t278 t279 t282 t283 w _ ?side1 ?side2 A20.out).mono ?_
           (case side1 => repeat (first | (with_reducible first | exact HB.out | apply zi | apply zd | apply zh | refine zj ?_ GE262.out | refine zj ?_ GE269.out) | exact HB.out))
           (case side2 => exact zaj rfl HO_270005.out)
           rintro e w24 ⟨v280, rfl, ho0, hb, hkp⟩
           refine ⟨_, rfl, ?_⟩
           obtain ⟨n0_, n1_, n2_, n3_, n4_⟩ := zD5 (zs (ok' := fun k_ => True) (zac ((zae HO_6.out (zaf HO_270005.out) zG84)) hkp (fun k_ hk_ hs_ => (hk_.2) hs_)) (fun k_ hk_ => trivial)) (zab zG65 hkp (fun hs_ => (fun e_ => (zad HO_270005.out BK262.out zG84) e_) hs_)) (zab zG66 hkp (fun hs_ => (fun e_ => (zad HO_270005.out BK269.out zG84) e_) hs_)) (zs (ok' := fun k_ => True) ho0 (fun k_ hk_ => trivial)) (hb)
           clear HO_6 BK262 BK269 HB HO_270005
           have HO_6 := n0_; have BK262 := n1_; have BK269 := n2_; have HO281 := n3_; have HB := n4_
           clear n0_ n1_ n2_ n3_ n4_
           (try clear hb)
           (try clear hkp)
           (try clear ho0)
           refine hK.out _ _ ⟨(blk_cell BK269.out 0).trans rfl, (blk_cell BK269.out 1).trans rfl, (blk_cell BK269.out 2).trans rfl, (blk_cell BK269.out 3).trans rfl, (blk_cell BK269.out 4).trans rfl, (blk_cell BK269.out 5).trans rfl, ((HB.out.cell (zb w _ hw273_0)).trans hw273_0), ((HB.out.cell (zb w _ hw273_1)).trans hw273_1), ((HB.out.cell (zb w _ hw273_2)).trans hw273_2), ((HB.out.cell (zb w _ hw273_3)).trans hw273_3), ((HB.out.cell (zb w _ hw273_4)).trans hw273_4)⟩ (fun hHeld => ?_)
           clear hK K
           refine norm_ (a' := ?_) ?_ ?_
           rotate_left
           ·show Act.put _ (some 34) _ = _
            simp only [Act.put, List.setIfInBounds_toArray, List.set_cons_zero, List.set_cons_succ, i64_w, i32_w]
            rfl
           refine zP 6 28 #[true, true, true, true, true, true, true, false, false, false, false, false, false] HT_ ?_
           refine zP 7 35 #[true, true, true, true, true, true, true, true, false, false, false, false, false] HT_ ?_
           refine zP 8 36 b13A4 HT_ ?_
           exact norm_ zG51x (hJ5 (v280) _ ⟨hHeld, zK168, zG74, zG65, zG66, zG52⟩)
          ·skip
           refine box_step ?hg (N := 8) ?hd (cs := (zs6 0 0 0 0 0 (.slice none 0 0))) (t := 29) ?hr ?_; (case hd => rfl); (case hg => rfl); (case hr => exact zH83)
           intro gb284 hg w24 hbox hb
           obtain ⟨n0_, n1_, n2_, n3_, n4_, n5_, n6_, n7_, n8_, n9_, n10_, n11_⟩ := zD12 (zo zG74 hb) (zo zK164 hb) (zq (g := gb262) (o := .cells (zs6 0 0 0 0 0 (.slice none 0 0)) 29 (0, 0)) zG65 hb) (zq (g := gb269) (o := .cells (zs6 x270000_1 x270001_1 x270002_1 x270003_1 x270004_1 (.slice Ao22 x270005_1.length co22)) 29 (0, 0)) zG66 hb) (zr zG52 hb) (hbox) ((by rw [hg]; exact (zp zG52) : w.heap.size ≤ gb284)) ((by rw [hg]; exact (zp zG52) : w.heap.size ≤ gb284)) ((by rw [hg]; exact Nat.ne_of_lt (zv (g := gb262) (o := .cells (zs6 0 0 0 0 0 (.slice none 0 0)) 29 (0, 0)) zG65) : gb262 ≠ gb284)) ((by rw [hg]; exact Nat.ne_of_gt (zv (g := gb262) (o := .cells (zs6 0 0 0 0 0 (.slice none 0 0)) 29 (0, 0)) zG65) : gb284 ≠ gb262)) ((by rw [hg]; exact Nat.ne_of_lt (zv (g := gb269) (o := .cells (zs6 x270000_1 x270001_1 x270002_1 x270003_1 x270004_1 (.slice Ao22 x270005_1.length co22)) 29 (0, 0)) zG66) : gb269 ≠ gb284)) ((by rw [hg]; exact Nat.ne_of_gt (zv (g := gb269) (o := .cells (zs6 x270000_1 x270001_1 x270002_1 x270003_1 x270004_1 (.slice Ao22 x270005_1.length co22)) 29 (0, 0)) zG66) : gb284 ≠ gb269))
           clear HO_6 HO_270005 BK262 BK269 HB
           have HO_6 := n0_; have HO_270005 := n1_; have BK262 := n2_; have BK269 := n3_; have HB := n4_; have BK284 := n5_; have GW284 := n6_; have GE284 := n7_; have NB262_284 := n8_; have NB284_262 := n9_; have NB269_284 := n10_; have NB284_269 := n11_
           clear n0_ n1_ n2_ n3_ n4_ n5_ n6_ n7_ n8_ n9_ n10_ n11_ hb hbox hg
           refine hK.out _ _ ⟨(blk_cell BK269.out 0).trans rfl, (blk_cell BK269.out 1).trans rfl, (blk_cell BK269.out 2).trans rfl, (blk_cell BK269.out 3).trans rfl, (blk_cell BK269.out 4).trans rfl, (blk_cell BK269.out 5).trans rfl, ((HB.out.cell (zb w _ hw273_0)).trans hw273_0), ((HB.out.cell (zb w _ hw273_1)).trans hw273_1), ((HB.out.cell (zb w _ hw273_2)).trans hw273_2), ((HB.out.cell (zb w _ hw273_3)).trans hw273_3), ((HB.out.cell (zb w _ hw273_4)).trans hw273_4)⟩ (fun hHeld => ?_)
           clear hK K
           refine norm_ (a' := ?_) ?_ ?_
           rotate_left
           ·show Act.put _ (some 8) _ = _
            simp only [Act.put, List.setIfInBounds_toArray, List.set_cons_zero, List.set_cons_succ, i64_w, i32_w]
            rfl
           exact norm_ zG51x (hJ9 (gb284) _ ⟨hHeld, zK164, zG74, zG65, zG66, zG67, GW284.out, GE284.out, NB262_284.out, NB284_262.out, NB269_284.out, NB284_269.out, zK134⟩)
          ·skip
           refine box_step ?hg (N := 9) ?hd (cs := (zo2 0 0)) (t := 36) ?hr ?_; (case hd => rfl); (case hg => rfl); (case hr => exact zH83)
           intro gb285 hg w24 hbox hb
           obtain ⟨n0_, n1_, n2_, n3_, n4_, n5_, n6_, n7_, n8_, n9_, n10_, n11_⟩ := zD12 (zo (zs (Kd.R_elderB zG74 gb285 (Nat.le_of_eq hg.symm)) (fun _ h_ => h_.2)) hb) (zo zK164 hb) (zq (g := gb262) (o := .cells (zs6 0 0 0 0 0 (.slice none 0 0)) 29 (0, 0)) zG65 hb) (zq (g := gb269) (o := .cells (zs6 x270000_1 x270001_1 x270002_1 x270003_1 x270004_1 (.slice Ao22 x270005_1.length co22)) 29 (0, 0)) zG66 hb) (zr zG52 hb) (hbox) ((by rw [hg]; exact (zp zG52) : w.heap.size ≤ gb285)) ((by rw [hg]; exact (zp zG52) : w.heap.size ≤ gb285)) ((by rw [hg]; exact Nat.ne_of_lt (zv (g := gb262) (o := .cells (zs6 0 0 0 0 0 (.slice none 0 0)) 29 (0, 0)) zG65) : gb262 ≠ gb285)) ((by rw [hg]; exact Nat.ne_of_gt (zv (g := gb262) (o := .cells (zs6 0 0 0 0 0 (.slice none 0 0)) 29 (0, 0)) zG65) : gb285 ≠ gb262)) ((by rw [hg]; exact Nat.ne_of_lt (zv (g := gb269) (o := .cells (zs6 x270000_1 x270001_1 x270002_1 x270003_1 x270004_1 (.slice Ao22 x270005_1.length co22)) 29 (0, 0)) zG66) : gb269 ≠ gb285)) ((by rw [hg]; exact Nat.ne_of_gt (zv (g := gb269) (o := .cells (zs6 x270000_1 x270001_1 x270002_1 x270003_1 x270004_1 (.slice Ao22 x270005_1.length co22)) 29 (0, 0)) zG66) : gb285 ≠ gb269))
           clear HO_6 HO_270005 BK262 BK269 HB
           have HO_6 := n0_; have HO_270005 := n1_; have BK262 := n2_; have BK269 := n3_; have HB := n4_; have BK285 := n5_; have GW285 := n6_; have GE285 := n7_; have NB262_285 := n8_; have NB285_262 := n9_; have NB269_285 := n10_; have NB285_269 := n11_
           clear n0_ n1_ n2_ n3_ n4_ n5_ n6_ n7_ n8_ n9_ n10_ n11_ hb hbox hg
           refine hK.out _ _ ⟨(blk_cell BK269.out 0).trans rfl, (blk_cell BK269.out 1).trans rfl, (blk_cell BK269.out 2).trans rfl, (blk_cell BK269.out 3).trans rfl, (blk_cell BK269.out 4).trans rfl, (blk_cell BK269.out 5).trans rfl, ((HB.out.cell (zb w _ hw273_0)).trans hw273_0), ((HB.out.cell (zb w _ hw273_1)).trans hw273_1), ((HB.out.cell (zb w _ hw273_2)).trans hw273_2), ((HB.out.cell (zb w _ hw273_3)).trans hw273_3), ((HB.out.cell (zb w _ hw273_4)).trans hw273_4)⟩ (fun hHeld => ?_)
           clear hK K
           refine norm_ (a' := ?_) ?_ ?_
           rotate_left
           ·show Act.put _ (some 9) _ = _
            simp only [Act.put, List.setIfInBounds_toArray, List.set_cons_zero, List.set_cons_succ, i64_w, i32_w]
            rfl
           exact norm_ zG51x (hJ10 (gb285) _ ⟨hHeld, zK164, zG74, zG65, zG66, zG68, GW285.out, GE285.out, NB262_285.out, NB285_262.out, NB269_285.out, NB285_269.out, zK135⟩)
         ·skip
          rintro gb285 w25 ⟨hS_, h0_, h1_, h2_, h3_, h4_, h5_, h6_, h7_, h8_, h9_, h10_, h11_⟩
          have n0_ : Aside0 (Kd.R k38 38 w25 w.heap.size (fun _ => True) (.slice Ao22 x270005_1.length co22) x270005_1) := ⟨h0_⟩
          have n1_ : Aside0 (Kd.R k36 36 w25 w.heap.size (fun k_ => k_ ≠ gb285) u6 x6_1) := ⟨h1_⟩
          have n2_ : Aside0 (w25.heap[gb262]? = some (.cells (zs6 0 0 0 0 0 (.slice none 0 0)) 29 (0, 0))) := ⟨h2_⟩
          have n3_ : Aside0 (w25.heap[gb269]? = some (.cells (zs6 x270000_1 x270001_1 x270002_1 x270003_1 x270004_1 (.slice Ao22 x270005_1.length co22)) 29 (0, 0))) := ⟨h3_⟩
          have n4_ : Aside0 (w25.heap[gb285]? = some (.cells (zo2 0 0) 36 (0, 0))) := ⟨h4_⟩
          have n5_ : Aside0 (w.heap.size ≤ gb285) := ⟨h5_⟩
          have n6_ : Aside0 (w.heap.size ≤ gb285) := ⟨h6_⟩
          have n7_ : Aside0 (gb262 ≠ gb285) := ⟨h7_⟩
          have n8_ : Aside0 (gb285 ≠ gb262) := ⟨h8_⟩
          have n9_ : Aside0 (gb269 ≠ gb285) := ⟨h9_⟩
          have n10_ : Aside0 (gb285 ≠ gb269) := ⟨h10_⟩
          have n11_ : Aside0 (Below w.heap.size w w25) := ⟨h11_⟩
          clear HO_6 HO_270005 BK262 BK269 HB h0_ h1_ h2_ h3_ h4_ h5_ h6_ h7_ h8_ h9_ h10_ h11_
          have HO_270005 := n0_; have HO_6 := n1_; have BK262 := n2_; have BK269 := n3_; have BK285 := n4_; have GW285 := n5_; have GE285 := n6_; have NB262_285 := n7_; have NB285_262 := n8_; have NB269_285 := n9_; have NB285_269 := n10_; have HB := n11_
          clear n0_ n1_ n2_ n3_ n4_ n5_ n6_ n7_ n8_ n9_ n10_ n11_
          have hHeld : w25.cell? ⟨gb269, 0, none⟩ = some (.int .i64 x270000_1) ∧ w25.cell? ⟨gb269, 1, none⟩ = some (.int .i64 x270001_1) ∧ w25.cell? ⟨gb269, 2, none⟩ = some (.int .i64 x270002_1) ∧ w25.cell? ⟨gb269, 3, none⟩ = some (.int .i64 x270003_1) ∧ w25.cell? ⟨gb269, 4, none⟩ = some (.int .i64 x270004_1) ∧ w25.cell? ⟨gb269, 5, none⟩ = some (.slice Ao22 x270005_1.length co22) ∧ w25.cell? (ad273.add ((x7_1).toNat * 5)) = some (.int .i64 ((rd_T34 l0 x7_1).f0)) ∧ w25.cell? ⟨(ad273.add ((x7_1).toNat * 5)).block, (ad273.add ((x7_1).toNat * 5)).off + 1, none⟩ = some (.string ((rd_T34 l0 x7_1).f1)) ∧ w25.cell? ⟨(ad273.add ((x7_1).toNat * 5)).block, (ad273.add ((x7_1).toNat * 5)).off + 2, none⟩ = some (.int .i64 ((rd_T34 l0 x7_1).f2)) ∧ w25.cell? ⟨(ad273.add ((x7_1).toNat * 5)).block, (ad273.add ((x7_1).toNat * 5)).off + 3, none⟩ = some (.int .i64 ((rd_T34 l0 x7_1).f3)) ∧ w25.cell? ⟨(ad273.add ((x7_1).toNat * 5)).block, (ad273.add ((x7_1).toNat * 5)).off + 4, none⟩ = some (.int .i64 ((rd_T34 l0 x7_1).f4)) := hS_
          refine norm_ (a' := ?_) ?_ ?_
          rotate_left
          ·simp only [YtnkceaibkfbeaaaW.PrintLast.putAll, Act.put, List.setIfInBounds_toArray, List.set_cons_zero, List.set_cons_succ]
           rfl
          refine two_ (i := 5) (j := 9) (Ni := some 34) (Nj := some 8) #[true, true, true, true, true, true, false, false, false, false, true, false, false] b13A3 rfl rfl rfl rfl (two_of HT_.out zG83) zG84 zG84 (fun K hK => ?_) (fun K hK => ?_)
          ·skip
           refine goes_ Try.func26 zG83 rfl #[.agg (zs6 x270000_1 x270001_1 x270002_1 x270003_1 x270004_1 (.slice Ao22 x270005_1.length co22)), .agg (za5 ((rd_T34 l0 x7_1).f0) ((rd_T34 l0 x7_1).f1) ((rd_T34 l0 x7_1).f2) ((rd_T34 l0 x7_1).f3) ((rd_T34 l0 x7_1).f4))] (by rfl) rfl rfl zG54 ?_
           with_reducible refine (spec_l14Act.calls k1 x270000_1 x270001_1 x270002_1 x270003_1 x270004_1 (fun k_ => some k_ = (.slice Ao22 x270005_1.length co22 : Value).ownBlock) (.slice Ao22 x270005_1.length co22) x270005_1 ((rd_T34 l0 x7_1).f0) ((rd_T34 l0 x7_1).f1) ((rd_T34 l0 x7_1).f2) ((rd_T34 l0 x7_1).f3) ((rd_T34 l0 x7_1).f4) t274 t275 t276 t277 t278 t279 t282 t283 w _ ?side1 ?side2 A20.out).mono ?_
           (case side1 => repeat (first | (with_reducible first | exact HB.out | apply zi | apply zd | apply zh | refine zj ?_ GE262.out | refine zj ?_ GE269.out | refine zj ?_ GE285.out) | exact HB.out))
           (case side2 => exact zaj rfl HO_270005.out)
           rintro e w26 ⟨v280, rfl, ho0, hb, hkp⟩
           refine ⟨_, rfl, ?_⟩
           obtain ⟨n0_, n1_, n2_, n3_, n4_, n5_⟩ := zD6 (zs (ok' := fun k_ => k_ ≠ gb285) (zac ((zae HO_6.out (zaf HO_270005.out) zG84)) hkp (fun k_ hk_ hs_ => (hk_.2) hs_)) (fun k_ hk_ => hk_.1.1)) (zab zG65 hkp (fun hs_ => (fun e_ => (zad HO_270005.out BK262.out zG84) e_) hs_)) (zab zG66 hkp (fun hs_ => (fun e_ => (zad HO_270005.out BK269.out zG84) e_) hs_)) (zab zG68 hkp (fun hs_ => (fun e_ => (zad HO_270005.out BK285.out zG84) e_) hs_)) (zs (ok' := fun k_ => True) ho0 (fun k_ hk_ => trivial)) (hb)
           clear HO_6 BK262 BK269 BK285 HB HO_270005
           have HO_6 := n0_; have BK262 := n1_; have BK269 := n2_; have BK285 := n3_; have HO281 := n4_; have HB := n5_
           clear n0_ n1_ n2_ n3_ n4_ n5_
           (try clear hb)
           (try clear hkp)
           (try clear ho0)
           refine hK.out _ _ ⟨(blk_cell BK269.out 0).trans rfl, (blk_cell BK269.out 1).trans rfl, (blk_cell BK269.out 2).trans rfl, (blk_cell BK269.out 3).trans rfl, (blk_cell BK269.out 4).trans rfl, (blk_cell BK269.out 5).trans rfl, ((HB.out.cell (zb w _ hw273_0)).trans hw273_0), ((HB.out.cell (zb w _ hw273_1)).trans hw273_1), ((HB.out.cell (zb w _ hw273_2)).trans hw273_2), ((HB.out.cell (zb w _ hw273_3)).trans hw273_3), ((HB.out.cell (zb w _ hw273_4)).trans hw273_4)⟩ (fun hHeld => ?_)
           clear hK K
           refine norm_ (a' := ?_) ?_ ?_
           rotate_left
           ·show Act.put _ (some 34) _ = _
            simp only [Act.put, List.setIfInBounds_toArray, List.set_cons_zero, List.set_cons_succ, i64_w, i32_w]
            rfl
           refine zP 6 28 #[true, true, true, true, true, true, true, false, false, false, true, false, false] HT_ ?_
           refine zP 7 35 #[true, true, true, true, true, true, true, true, false, false, true, false, false] HT_ ?_
           refine zP 8 36 b13A2 HT_ ?_
           exact norm_ zG51x (hJ5_10 (v280, gb285) _ ⟨hHeld, zK168, zG74, zG65, zG66, zG68, GW285.out, GE285.out, NB262_285.out, NB285_262.out, NB269_285.out, NB285_269.out, zK135⟩)
          ·skip
           refine box_step ?hg (N := 8) ?hd (cs := (zs6 0 0 0 0 0 (.slice none 0 0))) (t := 29) ?hr ?_; (case hd => rfl); (case hg => rfl); (case hr => exact zH83)
           intro gb284 hg w26 hbox hb
           obtain ⟨n0_, n1_, n2_, n3_, n4_, n5_, n6_, n7_, n8_, n9_, n10_, n11_, n12_, n13_, n14_⟩ := zD15 (zo zG74 hb) (zo zK164 hb) (zq (g := gb262) (o := .cells (zs6 0 0 0 0 0 (.slice none 0 0)) 29 (0, 0)) zG65 hb) (zq (g := gb269) (o := .cells (zs6 x270000_1 x270001_1 x270002_1 x270003_1 x270004_1 (.slice Ao22 x270005_1.length co22)) 29 (0, 0)) zG66 hb) (zq (g := gb285) (o := .cells (zo2 0 0) 36 (0, 0)) zG68 hb) (zr zK135 hb) (hbox) ((by rw [hg]; exact (zp zK135) : w.heap.size ≤ gb284)) ((by rw [hg]; exact (zp zK135) : w.heap.size ≤ gb284)) ((by rw [hg]; exact Nat.ne_of_lt (zv (g := gb262) (o := .cells (zs6 0 0 0 0 0 (.slice none 0 0)) 29 (0, 0)) zG65) : gb262 ≠ gb284)) ((by rw [hg]; exact Nat.ne_of_gt (zv (g := gb262) (o := .cells (zs6 0 0 0 0 0 (.slice none 0 0)) 29 (0, 0)) zG65) : gb284 ≠ gb262)) ((by rw [hg]; exact Nat.ne_of_lt (zv (g := gb269) (o := .cells (zs6 x270000_1 x270001_1 x270002_1 x270003_1 x270004_1 (.slice Ao22 x270005_1.length co22)) 29 (0, 0)) zG66) : gb269 ≠ gb284)) ((by rw [hg]; exact Nat.ne_of_gt (zv (g := gb269) (o := .cells (zs6 x270000_1 x270001_1 x270002_1 x270003_1 x270004_1 (.slice Ao22 x270005_1.length co22)) 29 (0, 0)) zG66) : gb284 ≠ gb269)) ((by rw [hg]; exact Nat.ne_of_lt (zv (g := gb285) (o := .cells (zo2 0 0) 36 (0, 0)) zG68) : gb285 ≠ gb284)) ((by rw [hg]; exact Nat.ne_of_gt (zv (g := gb285) (o := .cells (zo2 0 0) 36 (0, 0)) zG68) : gb284 ≠ gb285))
           clear HO_6 HO_270005 BK262 BK269 BK285 HB
           have HO_6 := n0_; have HO_270005 := n1_; have BK262 := n2_; have BK269 := n3_; have BK285 := n4_; have HB := n5_; have BK284 := n6_; have GW284 := n7_; have GE284 := n8_; have NB262_284 := n9_; have NB284_262 := n10_; have NB269_284 := n11_; have NB284_269 := n12_; have NB285_284 := n13_; have NB284_285 := n14_
           clear n0_ n1_ n2_ n3_ n4_ n5_ n6_ n7_ n8_ n9_ n10_ n11_ n12_ n13_ n14_ hb hbox hg
           refine hK.out _ _ ⟨(blk_cell BK269.out 0).trans rfl, (blk_cell BK269.out 1).trans rfl, (blk_cell BK269.out 2).trans rfl, (blk_cell BK269.out 3).trans rfl, (blk_cell BK269.out 4).trans rfl, (blk_cell BK269.out 5).trans rfl, ((HB.out.cell (zb w _ hw273_0)).trans hw273_0), ((HB.out.cell (zb w _ hw273_1)).trans hw273_1), ((HB.out.cell (zb w _ hw273_2)).trans hw273_2), ((HB.out.cell (zb w _ hw273_3)).trans hw273_3), ((HB.out.cell (zb w _ hw273_4)).trans hw273_4)⟩ (fun hHeld => ?_)
           clear hK K
           refine norm_ (a' := ?_) ?_ ?_
           rotate_left
           ·show Act.put _ (some 8) _ = _
            simp only [Act.put, List.setIfInBounds_toArray, List.set_cons_zero, List.set_cons_succ, i64_w, i32_w]
            rfl
           exact norm_ zG51x (hJ9_10 (gb284, gb285) _ ⟨hHeld, zK164, zG74, zG65, zG66, zG67, zG68, GW284.out, GE284.out, NB262_284.out, NB284_262.out, NB269_284.out, NB284_269.out, NB285_284.out, NB284_285.out, GW285.out, GE285.out, NB262_285.out, NB285_262.out, NB269_285.out, NB285_269.out, zK131⟩)
        ·skip
         rintro gb284 w25 ⟨hS_, h0_, h1_, h2_, h3_, h4_, h5_, h6_, h7_, h8_, h9_, h10_, h11_⟩
         have n0_ : Aside0 (Kd.R k38 38 w25 w.heap.size (fun _ => True) (.slice Ao22 x270005_1.length co22) x270005_1) := ⟨h0_⟩
         have n1_ : Aside0 (Kd.R k36 36 w25 w.heap.size (fun _ => True) u6 x6_1) := ⟨h1_⟩
         have n2_ : Aside0 (w25.heap[gb262]? = some (.cells (zs6 0 0 0 0 0 (.slice none 0 0)) 29 (0, 0))) := ⟨h2_⟩
         have n3_ : Aside0 (w25.heap[gb269]? = some (.cells (zs6 x270000_1 x270001_1 x270002_1 x270003_1 x270004_1 (.slice Ao22 x270005_1.length co22)) 29 (0, 0))) := ⟨h3_⟩
         have n4_ : Aside0 (w25.heap[gb284]? = some (.cells (zs6 0 0 0 0 0 (.slice none 0 0)) 29 (0, 0))) := ⟨h4_⟩
         have n5_ : Aside0 (w.heap.size ≤ gb284) := ⟨h5_⟩
         have n6_ : Aside0 (w.heap.size ≤ gb284) := ⟨h6_⟩
         have n7_ : Aside0 (gb262 ≠ gb284) := ⟨h7_⟩
         have n8_ : Aside0 (gb284 ≠ gb262) := ⟨h8_⟩
         have n9_ : Aside0 (gb269 ≠ gb284) := ⟨h9_⟩
         have n10_ : Aside0 (gb284 ≠ gb269) := ⟨h10_⟩
         have n11_ : Aside0 (Below w.heap.size w w25) := ⟨h11_⟩
         clear HO_6 HO_270005 BK262 BK269 HB h0_ h1_ h2_ h3_ h4_ h5_ h6_ h7_ h8_ h9_ h10_ h11_
         have HO_270005 := n0_; have HO_6 := n1_; have BK262 := n2_; have BK269 := n3_; have BK284 := n4_; have GW284 := n5_; have GE284 := n6_; have NB262_284 := n7_; have NB284_262 := n8_; have NB269_284 := n9_; have NB284_269 := n10_; have HB := n11_
         clear n0_ n1_ n2_ n3_ n4_ n5_ n6_ n7_ n8_ n9_ n10_ n11_
         have hHeld : w25.cell? ⟨gb269, 0, none⟩ = some (.int .i64 x270000_1) ∧ w25.cell? ⟨gb269, 1, none⟩ = some (.int .i64 x270001_1) ∧ w25.cell? ⟨gb269, 2, none⟩ = some (.int .i64 x270002_1) ∧ w25.cell? ⟨gb269, 3, none⟩ = some (.int .i64 x270003_1) ∧ w25.cell? ⟨gb269, 4, none⟩ = some (.int .i64 x270004_1) ∧ w25.cell? ⟨gb269, 5, none⟩ = some (.slice Ao22 x270005_1.length co22) ∧ w25.cell? (ad273.add ((x7_1).toNat * 5)) = some (.int .i64 ((rd_T34 l0 x7_1).f0)) ∧ w25.cell? ⟨(ad273.add ((x7_1).toNat * 5)).block, (ad273.add ((x7_1).toNat * 5)).off + 1, none⟩ = some (.string ((rd_T34 l0 x7_1).f1)) ∧ w25.cell? ⟨(ad273.add ((x7_1).toNat * 5)).block, (ad273.add ((x7_1).toNat * 5)).off + 2, none⟩ = some (.int .i64 ((rd_T34 l0 x7_1).f2)) ∧ w25.cell? ⟨(ad273.add ((x7_1).toNat * 5)).block, (ad273.add ((x7_1).toNat * 5)).off + 3, none⟩ = some (.int .i64 ((rd_T34 l0 x7_1).f3)) ∧ w25.cell? ⟨(ad273.add ((x7_1).toNat * 5)).block, (ad273.add ((x7_1).toNat * 5)).off + 4, none⟩ = some (.int .i64 ((rd_T34 l0 x7_1).f4)) := hS_
         refine norm_ (a' := ?_) ?_ ?_
         rotate_left
         ·simp only [YtnkceaibkfbeaaaW.PrintLast.putAll, Act.put, List.setIfInBounds_toArray, List.set_cons_zero, List.set_cons_succ]
          rfl
         refine two_ (i := 5) (j := 10) (Ni := some 34) (Nj := some 9) #[true, true, true, true, true, true, false, false, false, true, false, false, false] b13A3 rfl rfl rfl rfl (two_of HT_.out zG83) zG84 zG84 (fun K hK => ?_) (fun K hK => ?_)
         ·skip
          refine goes_ Try.func26 zG83 rfl #[.agg (zs6 x270000_1 x270001_1 x270002_1 x270003_1 x270004_1 (.slice Ao22 x270005_1.length co22)), .agg (za5 ((rd_T34 l0 x7_1).f0) ((rd_T34 l0 x7_1).f1) ((rd_T34 l0 x7_1).f2) ((rd_T34 l0 x7_1).f3) ((rd_T34 l0 x7_1).f4))] (by rfl) rfl rfl zG54 ?_
          with_reducible refine (spec_l14Act.calls k1 x270000_1 x270001_1 x270002_1 x270003_1 x270004_1 (fun k_ => some k_ = (.slice Ao22 x270005_1.length co22 : Value).ownBlock) (.slice Ao22 x270005_1.length co22) x270005_1 ((rd_T34 l0 x7_1).f0) ((rd_T34 l0 x7_1).f1) ((rd_T34 l0 x7_1).f2) ((rd_T34 l0 x7_1).f3) ((rd_T34 l0 x7_1).f4) t274 t275 t276 t277 t278 t279 t282 t283 w _ ?side1 ?side2 A20.out).mono ?_
          (case side1 => repeat (first | (with_reducible first | exact HB.out | apply zi | apply zd | apply zh | refine zj ?_ GE262.out | refine zj ?_ GE269.out | refine zj ?_ GE284.out) | exact HB.out))
          (case side2 => exact zaj rfl HO_270005.out)
          rintro e w26 ⟨v280, rfl, ho0, hb, hkp⟩
          refine ⟨_, rfl, ?_⟩
          obtain ⟨n0_, n1_, n2_, n3_, n4_, n5_⟩ := zD6 (zs (ok' := fun k_ => True) (zac ((zae HO_6.out (zaf HO_270005.out) zG84)) hkp (fun k_ hk_ hs_ => (hk_.2) hs_)) (fun k_ hk_ => trivial)) (zab zG65 hkp (fun hs_ => (fun e_ => (zad HO_270005.out BK262.out zG84) e_) hs_)) (zab zG66 hkp (fun hs_ => (fun e_ => (zad HO_270005.out BK269.out zG84) e_) hs_)) (zab zG67 hkp (fun hs_ => (fun e_ => (zad HO_270005.out BK284.out zG84) e_) hs_)) (zs (ok' := fun k_ => True) ho0 (fun k_ hk_ => trivial)) (hb)
          clear HO_6 BK262 BK269 BK284 HB HO_270005
          have HO_6 := n0_; have BK262 := n1_; have BK269 := n2_; have BK284 := n3_; have HO281 := n4_; have HB := n5_
          clear n0_ n1_ n2_ n3_ n4_ n5_
          (try clear hb)
          (try clear hkp)
          (try clear ho0)
          refine hK.out _ _ ⟨(blk_cell BK269.out 0).trans rfl, (blk_cell BK269.out 1).trans rfl, (blk_cell BK269.out 2).trans rfl, (blk_cell BK269.out 3).trans rfl, (blk_cell BK269.out 4).trans rfl, (blk_cell BK269.out 5).trans rfl, ((HB.out.cell (zb w _ hw273_0)).trans hw273_0), ((HB.out.cell (zb w _ hw273_1)).trans hw273_1), ((HB.out.cell (zb w _ hw273_2)).trans hw273_2), ((HB.out.cell (zb w _ hw273_3)).trans hw273_3), ((HB.out.cell (zb w _ hw273_4)).trans hw273_4)⟩ (fun hHeld => ?_)
          clear hK K
          refine norm_ (a' := ?_) ?_ ?_
          rotate_left
          ·show Act.put _ (some 34) _ = _
           simp only [Act.put, List.setIfInBounds_toArray, List.set_cons_zero, List.set_cons_succ, i64_w, i32_w]
           rfl
          refine zP 6 28 #[true, true, true, true, true, true, true, false, false, true, false, false, false] HT_ ?_
          refine zP 7 35 #[true, true, true, true, true, true, true, true, false, true, false, false, false] HT_ ?_
          refine zP 8 36 b13A1 HT_ ?_
          exact norm_ zG51x (hJ5_9 (v280, gb284) _ ⟨hHeld, zK168, zG74, zG65, zG66, zG67, GW284.out, GE284.out, NB262_284.out, NB284_262.out, NB269_284.out, NB284_269.out, zK134⟩)
         ·skip
          refine box_step ?hg (N := 9) ?hd (cs := (zo2 0 0)) (t := 36) ?hr ?_; (case hd => rfl); (case hg => rfl); (case hr => exact zH83)
          intro gb285 hg w26 hbox hb
          obtain ⟨n0_, n1_, n2_, n3_, n4_, n5_, n6_, n7_, n8_, n9_, n10_, n11_, n12_, n13_, n14_⟩ := zD15 (zo (zs (Kd.R_elderB zG74 gb285 (Nat.le_of_eq hg.symm)) (fun _ h_ => h_.2)) hb) (zo zK164 hb) (zq (g := gb262) (o := .cells (zs6 0 0 0 0 0 (.slice none 0 0)) 29 (0, 0)) zG65 hb) (zq (g := gb269) (o := .cells (zs6 x270000_1 x270001_1 x270002_1 x270003_1 x270004_1 (.slice Ao22 x270005_1.length co22)) 29 (0, 0)) zG66 hb) (zq (g := gb284) (o := .cells (zs6 0 0 0 0 0 (.slice none 0 0)) 29 (0, 0)) zG67 hb) (zr zK134 hb) (hbox) ((by rw [hg]; exact (zp zK134) : w.heap.size ≤ gb285)) ((by rw [hg]; exact (zp zK134) : w.heap.size ≤ gb285)) ((by rw [hg]; exact Nat.ne_of_lt (zv (g := gb262) (o := .cells (zs6 0 0 0 0 0 (.slice none 0 0)) 29 (0, 0)) zG65) : gb262 ≠ gb285)) ((by rw [hg]; exact Nat.ne_of_gt (zv (g := gb262) (o := .cells (zs6 0 0 0 0 0 (.slice none 0 0)) 29 (0, 0)) zG65) : gb285 ≠ gb262)) ((by rw [hg]; exact Nat.ne_of_lt (zv (g := gb269) (o := .cells (zs6 x270000_1 x270001_1 x270002_1 x270003_1 x270004_1 (.slice Ao22 x270005_1.length co22)) 29 (0, 0)) zG66) : gb269 ≠ gb285)) ((by rw [hg]; exact Nat.ne_of_gt (zv (g := gb269) (o := .cells (zs6 x270000_1 x270001_1 x270002_1 x270003_1 x270004_1 (.slice Ao22 x270005_1.length co22)) 29 (0, 0)) zG66) : gb285 ≠ gb269)) ((by rw [hg]; exact Nat.ne_of_lt (zv (g := gb284) (o := .cells (zs6 0 0 0 0 0 (.slice none 0 0)) 29 (0, 0)) zG67) : gb284 ≠ gb285)) ((by rw [hg]; exact Nat.ne_of_gt (zv (g := gb284) (o := .cells (zs6 0 0 0 0 0 (.slice none 0 0)) 29 (0, 0)) zG67) : gb285 ≠ gb284))
          clear HO_6 HO_270005 BK262 BK269 BK284 HB
          have HO_6 := n0_; have HO_270005 := n1_; have BK262 := n2_; have BK269 := n3_; have BK284 := n4_; have HB := n5_; have BK285 := n6_; have GW285 := n7_; have GE285 := n8_; have NB262_285 := n9_; have NB285_262 := n10_; have NB269_285 := n11_; have NB285_269 := n12_; have NB284_285 := n13_; have NB285_284 := n14_
          clear n0_ n1_ n2_ n3_ n4_ n5_ n6_ n7_ n8_ n9_ n10_ n11_ n12_ n13_ n14_ hb hbox hg
          refine hK.out _ _ ⟨(blk_cell BK269.out 0).trans rfl, (blk_cell BK269.out 1).trans rfl, (blk_cell BK269.out 2).trans rfl, (blk_cell BK269.out 3).trans rfl, (blk_cell BK269.out 4).trans rfl, (blk_cell BK269.out 5).trans rfl, ((HB.out.cell (zb w _ hw273_0)).trans hw273_0), ((HB.out.cell (zb w _ hw273_1)).trans hw273_1), ((HB.out.cell (zb w _ hw273_2)).trans hw273_2), ((HB.out.cell (zb w _ hw273_3)).trans hw273_3), ((HB.out.cell (zb w _ hw273_4)).trans hw273_4)⟩ (fun hHeld => ?_)
          clear hK K
          refine norm_ (a' := ?_) ?_ ?_
          rotate_left
          ·show Act.put _ (some 9) _ = _
           simp only [Act.put, List.setIfInBounds_toArray, List.set_cons_zero, List.set_cons_succ, i64_w, i32_w]
           rfl
          exact norm_ zG51x (hJ9_10 (gb284, gb285) _ ⟨hHeld, zK164, zG74, zG65, zG66, zG67, zG68, GW284.out, GE284.out, NB262_284.out, NB284_262.out, NB269_284.out, NB284_269.out, NB285_284.out, NB284_285.out, GW285.out, GE285.out, NB262_285.out, NB285_262.out, NB269_285.out, NB285_269.out, zK132⟩)
       ·skip
        rintro v280 w25 ⟨hS_, h0_, h1_, h2_, h3_, h4_⟩
        have n0_ : Aside0 (Kd.R k38 38 w25 w.heap.size (fun _ => True) v280 t279) := ⟨h0_⟩
        have n1_ : Aside0 (Kd.R k36 36 w25 w.heap.size (fun _ => True) u6 x6_1) := ⟨h1_⟩
        have n2_ : Aside0 (w25.heap[gb262]? = some (.cells (zs6 0 0 0 0 0 (.slice none 0 0)) 29 (0, 0))) := ⟨h2_⟩
        have n3_ : Aside0 (w25.heap[gb269]? = some (.cells (zs6 x270000_1 x270001_1 x270002_1 x270003_1 x270004_1 (.slice Ao22 x270005_1.length co22)) 29 (0, 0))) := ⟨h3_⟩
        have n4_ : Aside0 (Below w.heap.size w w25) := ⟨h4_⟩
        clear HO_6 HO_270005 BK262 BK269 HB h0_ h1_ h2_ h3_ h4_
        have HO281 := n0_; have HO_6 := n1_; have BK262 := n2_; have BK269 := n3_; have HB := n4_
        clear n0_ n1_ n2_ n3_ n4_
        have hHeld : w25.cell? ⟨gb269, 0, none⟩ = some (.int .i64 x270000_1) ∧ w25.cell? ⟨gb269, 1, none⟩ = some (.int .i64 x270001_1) ∧ w25.cell? ⟨gb269, 2, none⟩ = some (.int .i64 x270002_1) ∧ w25.cell? ⟨gb269, 3, none⟩ = some (.int .i64 x270003_1) ∧ w25.cell? ⟨gb269, 4, none⟩ = some (.int .i64 x270004_1) ∧ w25.cell? ⟨gb269, 5, none⟩ = some (.slice Ao22 x270005_1.length co22) ∧ w25.cell? (ad273.add ((x7_1).toNat * 5)) = some (.int .i64 ((rd_T34 l0 x7_1).f0)) ∧ w25.cell? ⟨(ad273.add ((x7_1).toNat * 5)).block, (ad273.add ((x7_1).toNat * 5)).off + 1, none⟩ = some (.string ((rd_T34 l0 x7_1).f1)) ∧ w25.cell? ⟨(ad273.add ((x7_1).toNat * 5)).block, (ad273.add ((x7_1).toNat * 5)).off + 2, none⟩ = some (.int .i64 ((rd_T34 l0 x7_1).f2)) ∧ w25.cell? ⟨(ad273.add ((x7_1).toNat * 5)).block, (ad273.add ((x7_1).toNat * 5)).off + 3, none⟩ = some (.int .i64 ((rd_T34 l0 x7_1).f3)) ∧ w25.cell? ⟨(ad273.add ((x7_1).toNat * 5)).block, (ad273.add ((x7_1).toNat * 5)).off + 4, none⟩ = some (.int .i64 ((rd_T34 l0 x7_1).f4)) := hS_
        refine norm_ (a' := ?_) ?_ ?_
        rotate_left
        ·simp only [YtnkceaibkfbeaaaW.PrintLast.putAll, Act.put, List.setIfInBounds_toArray, List.set_cons_zero, List.set_cons_succ]
         rfl
        refine two_ (i := 9) (j := 10) (Ni := some 8) (Nj := some 9) b13A1 b13A2 rfl rfl rfl rfl (two_of HT_.out zG83) zG84 zG84 (fun K hK => ?_) (fun K hK => ?_)
        ·skip
         refine box_step ?hg (N := 8) ?hd (cs := (zs6 0 0 0 0 0 (.slice none 0 0))) (t := 29) ?hr ?_; (case hd => rfl); (case hg => rfl); (case hr => exact zH83)
         intro gb284 hg w26 hbox hb
         obtain ⟨n0_, n1_, n2_, n3_, n4_, n5_, n6_, n7_, n8_, n9_, n10_, n11_⟩ := zD12 (zo zG74 hb) (zo zK168 hb) (zq (g := gb262) (o := .cells (zs6 0 0 0 0 0 (.slice none 0 0)) 29 (0, 0)) zG65 hb) (zq (g := gb269) (o := .cells (zs6 x270000_1 x270001_1 x270002_1 x270003_1 x270004_1 (.slice Ao22 x270005_1.length co22)) 29 (0, 0)) zG66 hb) (zr zG52 hb) (hbox) ((by rw [hg]; exact (zp zG52) : w.heap.size ≤ gb284)) ((by rw [hg]; exact (zp zG52) : w.heap.size ≤ gb284)) ((by rw [hg]; exact Nat.ne_of_lt (zv (g := gb262) (o := .cells (zs6 0 0 0 0 0 (.slice none 0 0)) 29 (0, 0)) zG65) : gb262 ≠ gb284)) ((by rw [hg]; exact Nat.ne_of_gt (zv (g := gb262) (o := .cells (zs6 0 0 0 0 0 (.slice none 0 0)) 29 (0, 0)) zG65) : gb284 ≠ gb262)) ((by rw [hg]; exact Nat.ne_of_lt (zv (g := gb269) (o := .cells (zs6 x270000_1 x270001_1 x270002_1 x270003_1 x270004_1 (.slice Ao22 x270005_1.length co22)) 29 (0, 0)) zG66) : gb269 ≠ gb284)) ((by rw [hg]; exact Nat.ne_of_gt (zv (g := gb269) (o := .cells (zs6 x270000_1 x270001_1 x270002_1 x270003_1 x270004_1 (.slice Ao22 x270005_1.length co22)) 29 (0, 0)) zG66) : gb284 ≠ gb269))
         clear HO_6 HO281 BK262 BK269 HB
         have HO_6 := n0_; have HO281 := n1_; have BK262 := n2_; have BK269 := n3_; have HB := n4_; have BK284 := n5_; have GW284 := n6_; have GE284 := n7_; have NB262_284 := n8_; have NB284_262 := n9_; have NB269_284 := n10_; have NB284_269 := n11_
         clear n0_ n1_ n2_ n3_ n4_ n5_ n6_ n7_ n8_ n9_ n10_ n11_ hb hbox hg
         refine hK.out _ _ ⟨(blk_cell BK269.out 0).trans rfl, (blk_cell BK269.out 1).trans rfl, (blk_cell BK269.out 2).trans rfl, (blk_cell BK269.out 3).trans rfl, (blk_cell BK269.out 4).trans rfl, (blk_cell BK269.out 5).trans rfl, ((HB.out.cell (zb w _ hw273_0)).trans hw273_0), ((HB.out.cell (zb w _ hw273_1)).trans hw273_1), ((HB.out.cell (zb w _ hw273_2)).trans hw273_2), ((HB.out.cell (zb w _ hw273_3)).trans hw273_3), ((HB.out.cell (zb w _ hw273_4)).trans hw273_4)⟩ (fun hHeld => ?_)
         clear hK K
         refine norm_ (a' := ?_) ?_ ?_
         rotate_left
         ·show Act.put _ (some 8) _ = _
          simp only [Act.put, List.setIfInBounds_toArray, List.set_cons_zero, List.set_cons_succ, i64_w, i32_w]
          rfl
         exact norm_ zG51x (hJ5_9 (v280, gb284) _ ⟨hHeld, zK168, zG74, zG65, zG66, zG67, GW284.out, GE284.out, NB262_284.out, NB284_262.out, NB269_284.out, NB284_269.out, zK134⟩)
        ·skip
         refine box_step ?hg (N := 9) ?hd (cs := (zo2 0 0)) (t := 36) ?hr ?_; (case hd => rfl); (case hg => rfl); (case hr => exact zH83)
         intro gb285 hg w26 hbox hb
         obtain ⟨n0_, n1_, n2_, n3_, n4_, n5_, n6_, n7_, n8_, n9_, n10_, n11_⟩ := zD12 (zo (zs (Kd.R_elderB zG74 gb285 (Nat.le_of_eq hg.symm)) (fun _ h_ => h_.2)) hb) (zo zK168 hb) (zq (g := gb262) (o := .cells (zs6 0 0 0 0 0 (.slice none 0 0)) 29 (0, 0)) zG65 hb) (zq (g := gb269) (o := .cells (zs6 x270000_1 x270001_1 x270002_1 x270003_1 x270004_1 (.slice Ao22 x270005_1.length co22)) 29 (0, 0)) zG66 hb) (zr zG52 hb) (hbox) ((by rw [hg]; exact (zp zG52) : w.heap.size ≤ gb285)) ((by rw [hg]; exact (zp zG52) : w.heap.size ≤ gb285)) ((by rw [hg]; exact Nat.ne_of_lt (zv (g := gb262) (o := .cells (zs6 0 0 0 0 0 (.slice none 0 0)) 29 (0, 0)) zG65) : gb262 ≠ gb285)) ((by rw [hg]; exact Nat.ne_of_gt (zv (g := gb262) (o := .cells (zs6 0 0 0 0 0 (.slice none 0 0)) 29 (0, 0)) zG65) : gb285 ≠ gb262)) ((by rw [hg]; exact Nat.ne_of_lt (zv (g := gb269) (o := .cells (zs6 x270000_1 x270001_1 x270002_1 x270003_1 x270004_1 (.slice Ao22 x270005_1.length co22)) 29 (0, 0)) zG66) : gb269 ≠ gb285)) ((by rw [hg]; exact Nat.ne_of_gt (zv (g := gb269) (o := .cells (zs6 x270000_1 x270001_1 x270002_1 x270003_1 x270004_1 (.slice Ao22 x270005_1.length co22)) 29 (0, 0)) zG66) : gb285 ≠ gb269))
         clear HO_6 HO281 BK262 BK269 HB
         have HO_6 := n0_; have HO281 := n1_; have BK262 := n2_; have BK269 := n3_; have HB := n4_; have BK285 := n5_; have GW285 := n6_; have GE285 := n7_; have NB262_285 := n8_; have NB285_262 := n9_; have NB269_285 := n10_; have NB285_269 := n11_
         clear n0_ n1_ n2_ n3_ n4_ n5_ n6_ n7_ n8_ n9_ n10_ n11_ hb hbox hg
         refine hK.out _ _ ⟨(blk_cell BK269.out 0).trans rfl, (blk_cell BK269.out 1).trans rfl, (blk_cell BK269.out 2).trans rfl, (blk_cell BK269.out 3).trans rfl, (blk_cell BK269.out 4).trans rfl, (blk_cell BK269.out 5).trans rfl, ((HB.out.cell (zb w _ hw273_0)).trans hw273_0), ((HB.out.cell (zb w _ hw273_1)).trans hw273_1), ((HB.out.cell (zb w _ hw273_2)).trans hw273_2), ((HB.out.cell (zb w _ hw273_3)).trans hw273_3), ((HB.out.cell (zb w _ hw273_4)).trans hw273_4)⟩ (fun hHeld => ?_)
         clear hK K
         refine norm_ (a' := ?_) ?_ ?_
         rotate_left
         ·show Act.put _ (some 9) _ = _
          simp only [Act.put, List.setIfInBounds_toArray, List.set_cons_zero, List.set_cons_succ, i64_w, i32_w]
          rfl
         exact norm_ zG51x (hJ5_10 (v280, gb285) _ ⟨hHeld, zK168, zG74, zG65, zG66, zG68, GW285.out, GE285.out, NB262_285.out, NB285_262.out, NB269_285.out, NB285_269.out, zK135⟩)
      ·skip
       rintro ⟨gb284, gb285⟩ w26 ⟨hS_, h0_, h1_, h2_, h3_, h4_, h5_, h6_, h7_, h8_, h9_, h10_, h11_, h12_, h13_, h14_, h15_, h16_, h17_, h18_, h19_, h20_⟩
       have n0_ : Aside0 (Kd.R k38 38 w26 w.heap.size (fun _ => True) (.slice Ao22 x270005_1.length co22) x270005_1) := ⟨h0_⟩
       have n1_ : Aside0 (Kd.R k36 36 w26 w.heap.size (fun k_ => k_ ≠ gb285) u6 x6_1) := ⟨h1_⟩
       have n2_ : Aside0 (w26.heap[gb262]? = some (.cells (zs6 0 0 0 0 0 (.slice none 0 0)) 29 (0, 0))) := ⟨h2_⟩
       have n3_ : Aside0 (w26.heap[gb269]? = some (.cells (zs6 x270000_1 x270001_1 x270002_1 x270003_1 x270004_1 (.slice Ao22 x270005_1.length co22)) 29 (0, 0))) := ⟨h3_⟩
       have n4_ : Aside0 (w26.heap[gb284]? = some (.cells (zs6 0 0 0 0 0 (.slice none 0 0)) 29 (0, 0))) := ⟨h4_⟩
       have n5_ : Aside0 (w26.heap[gb285]? = some (.cells (zo2 0 0) 36 (0, 0))) := ⟨h5_⟩
       have n6_ : Aside0 (w.heap.size ≤ gb284) := ⟨h6_⟩
       have n7_ : Aside0 (w.heap.size ≤ gb284) := ⟨h7_⟩
       have n8_ : Aside0 (gb262 ≠ gb284) := ⟨h8_⟩
       have n9_ : Aside0 (gb284 ≠ gb262) := ⟨h9_⟩
       have n10_ : Aside0 (gb269 ≠ gb284) := ⟨h10_⟩
       have n11_ : Aside0 (gb284 ≠ gb269) := ⟨h11_⟩
       have n12_ : Aside0 (gb285 ≠ gb284) := ⟨h12_⟩
       have n13_ : Aside0 (gb284 ≠ gb285) := ⟨h13_⟩
       have n14_ : Aside0 (w.heap.size ≤ gb285) := ⟨h14_⟩
       have n15_ : Aside0 (w.heap.size ≤ gb285) := ⟨h15_⟩
       have n16_ : Aside0 (gb262 ≠ gb285) := ⟨h16_⟩
       have n17_ : Aside0 (gb285 ≠ gb262) := ⟨h17_⟩
       have n18_ : Aside0 (gb269 ≠ gb285) := ⟨h18_⟩
       have n19_ : Aside0 (gb285 ≠ gb269) := ⟨h19_⟩
       have n20_ : Aside0 (Below w.heap.size w w26) := ⟨h20_⟩
       clear HO_6 HO_270005 BK262 BK269 HB h0_ h1_ h2_ h3_ h4_ h5_ h6_ h7_ h8_ h9_ h10_ h11_ h12_ h13_ h14_ h15_ h16_ h17_ h18_ h19_ h20_
       have HO_270005 := n0_; have HO_6 := n1_; have BK262 := n2_; have BK269 := n3_; have BK284 := n4_; have BK285 := n5_; have GW284 := n6_; have GE284 := n7_; have NB262_284 := n8_; have NB284_262 := n9_; have NB269_284 := n10_; have NB284_269 := n11_; have NB285_284 := n12_; have NB284_285 := n13_; have GW285 := n14_; have GE285 := n15_; have NB262_285 := n16_; have NB285_262 := n17_; have NB269_285 := n18_; have NB285_269 := n19_; have HB := n20_
       clear n0_ n1_ n2_ n3_ n4_ n5_ n6_ n7_ n8_ n9_ n10_ n11_ n12_ n13_ n14_ n15_ n16_ n17_ n18_ n19_ n20_
       have hHeld : w26.cell? ⟨gb269, 0, none⟩ = some (.int .i64 x270000_1) ∧ w26.cell? ⟨gb269, 1, none⟩ = some (.int .i64 x270001_1) ∧ w26.cell? ⟨gb269, 2, none⟩ = some (.int .i64 x270002_1) ∧ w26.cell? ⟨gb269, 3, none⟩ = some (.int .i64 x270003_1) ∧ w26.cell? ⟨gb269, 4, none⟩ = some (.int .i64 x270004_1) ∧ w26.cell? ⟨gb269, 5, none⟩ = some (.slice Ao22 x270005_1.length co22) ∧ w26.cell? (ad273.add ((x7_1).toNat * 5)) = some (.int .i64 ((rd_T34 l0 x7_1).f0)) ∧ w26.cell? ⟨(ad273.add ((x7_1).toNat * 5)).block, (ad273.add ((x7_1).toNat * 5)).off + 1, none⟩ = some (.string ((rd_T34 l0 x7_1).f1)) ∧ w26.cell? ⟨(ad273.add ((x7_1).toNat * 5)).block, (ad273.add ((x7_1).toNat * 5)).off + 2, none⟩ = some (.int .i64 ((rd_T34 l0 x7_1).f2)) ∧ w26.cell? ⟨(ad273.add ((x7_1).toNat * 5)).block, (ad273.add ((x7_1).toNat * 5)).off + 3, none⟩ = some (.int .i64 ((rd_T34 l0 x7_1).f3)) ∧ w26.cell? ⟨(ad273.add ((x7_1).toNat * 5)).block, (ad273.add ((x7_1).toNat * 5)).off + 4, none⟩ = some (.int .i64 ((rd_T34 l0 x7_1).f4)) := hS_
       refine norm_ (a' := ?_) ?_ ?_
       rotate_left
       ·simp only [YtnkceaibkfbeaaaW.PrintLast.putAll, Act.put, List.setIfInBounds_toArray, List.set_cons_zero, List.set_cons_succ]
        rfl
       refine one_ (i := 5) (N := some 34) #[true, true, true, true, true, true, false, false, false, true, true, false, false] rfl rfl (one_of HT_.out zG83) zG84 (fun K hK => ?_)
       refine goes_ Try.func26 zG83 rfl #[.agg (zs6 x270000_1 x270001_1 x270002_1 x270003_1 x270004_1 (.slice Ao22 x270005_1.length co22)), .agg (za5 ((rd_T34 l0 x7_1).f0) ((rd_T34 l0 x7_1).f1) ((rd_T34 l0 x7_1).f2) ((rd_T34 l0 x7_1).f3) ((rd_T34 l0 x7_1).f4))] (by rfl) rfl rfl zG54 ?_
       with_reducible refine (spec_l14Act.calls k1 x270000_1 x270001_1 x270002_1 x270003_1 x270004_1 (fun k_ => some k_ = (.slice Ao22 x270005_1.length co22 : Value).ownBlock) (.slice Ao22 x270005_1.length co22) x270005_1 ((rd_T34 l0 x7_1).f0) ((rd_T34 l0 x7_1).f1) ((rd_T34 l0 x7_1).f2) ((rd_T34 l0 x7_1).f3) ((rd_T34 l0 x7_1).f4) t274 t275 t276 t277 t278 t279 t282 t283 w _ ?side1 ?side2 A20.out).mono ?_
       (case side1 => repeat (first | (with_reducible first | exact HB.out | apply zi | apply zd | apply zh | refine zj ?_ GE262.out | refine zj ?_ GE269.out | refine zj ?_ GE284.out | refine zj ?_ GE285.out) | exact HB.out))
       (case side2 => exact zaj rfl HO_270005.out)
       rintro e w27 ⟨v280, rfl, ho0, hb, hkp⟩
       refine ⟨_, rfl, ?_⟩
       obtain ⟨n0_, n1_, n2_, n3_, n4_, n5_, n6_⟩ := zD7 (zs (ok' := fun k_ => k_ ≠ gb285) (zac ((zae HO_6.out (zaf HO_270005.out) zG84)) hkp (fun k_ hk_ hs_ => (hk_.2) hs_)) (fun k_ hk_ => hk_.1.1)) (zab zG65 hkp (fun hs_ => (fun e_ => (zad HO_270005.out BK262.out zG84) e_) hs_)) (zab zG66 hkp (fun hs_ => (fun e_ => (zad HO_270005.out BK269.out zG84) e_) hs_)) (zab zG67 hkp (fun hs_ => (fun e_ => (zad HO_270005.out BK284.out zG84) e_) hs_)) (zab zG68 hkp (fun hs_ => (fun e_ => (zad HO_270005.out BK285.out zG84) e_) hs_)) (zs (ok' := fun k_ => True) ho0 (fun k_ hk_ => trivial)) (hb)
       clear HO_6 BK262 BK269 BK284 BK285 HB HO_270005
       have HO_6 := n0_; have BK262 := n1_; have BK269 := n2_; have BK284 := n3_; have BK285 := n4_; have HO281 := n5_; have HB := n6_
       clear n0_ n1_ n2_ n3_ n4_ n5_ n6_
       (try clear hb)
       (try clear hkp)
       (try clear ho0)
       refine hK.out _ _ ⟨(blk_cell BK269.out 0).trans rfl, (blk_cell BK269.out 1).trans rfl, (blk_cell BK269.out 2).trans rfl, (blk_cell BK269.out 3).trans rfl, (blk_cell BK269.out 4).trans rfl, (blk_cell BK269.out 5).trans rfl, ((HB.out.cell (zb w _ hw273_0)).trans hw273_0), ((HB.out.cell (zb w _ hw273_1)).trans hw273_1), ((HB.out.cell (zb w _ hw273_2)).trans hw273_2), ((HB.out.cell (zb w _ hw273_3)).trans hw273_3), ((HB.out.cell (zb w _ hw273_4)).trans hw273_4)⟩ (fun hHeld => ?_)
       clear hK K
       refine norm_ (a' := ?_) ?_ ?_
       rotate_left
       ·show Act.put _ (some 34) _ = _
        simp only [Act.put, List.setIfInBounds_toArray, List.set_cons_zero, List.set_cons_succ, i64_w, i32_w]
        rfl
       refine zP 6 28 #[true, true, true, true, true, true, true, false, false, true, true, false, false] HT_ ?_
       refine zP 7 35 #[true, true, true, true, true, true, true, true, false, true, true, false, false] HT_ ?_
       refine zP 8 36 b13A0 HT_ ?_
       exact norm_ zG51x (hJ5_9_10 (v280, gb284, gb285) _ ⟨hHeld, zK168, zG74, zG65, zG66, zG67, zG68, GW284.out, GE284.out, NB262_284.out, NB284_262.out, NB269_284.out, NB284_269.out, NB285_284.out, NB284_285.out, GW285.out, GE285.out, NB262_285.out, NB285_262.out, NB269_285.out, NB285_269.out, zK132⟩)
     ·skip
      rintro ⟨v280, gb285⟩ w26 ⟨hS_, h0_, h1_, h2_, h3_, h4_, h5_, h6_, h7_, h8_, h9_, h10_, h11_⟩
      have n0_ : Aside0 (Kd.R k38 38 w26 w.heap.size (fun _ => True) v280 t279) := ⟨h0_⟩
      have n1_ : Aside0 (Kd.R k36 36 w26 w.heap.size (fun k_ => k_ ≠ gb285) u6 x6_1) := ⟨h1_⟩
      have n2_ : Aside0 (w26.heap[gb262]? = some (.cells (zs6 0 0 0 0 0 (.slice none 0 0)) 29 (0, 0))) := ⟨h2_⟩
      have n3_ : Aside0 (w26.heap[gb269]? = some (.cells (zs6 x270000_1 x270001_1 x270002_1 x270003_1 x270004_1 (.slice Ao22 x270005_1.length co22)) 29 (0, 0))) := ⟨h3_⟩
      have n4_ : Aside0 (w26.heap[gb285]? = some (.cells (zo2 0 0) 36 (0, 0))) := ⟨h4_⟩
      have n5_ : Aside0 (w.heap.size ≤ gb285) := ⟨h5_⟩
      have n6_ : Aside0 (w.heap.size ≤ gb285) := ⟨h6_⟩
      have n7_ : Aside0 (gb262 ≠ gb285) := ⟨h7_⟩
      have n8_ : Aside0 (gb285 ≠ gb262) := ⟨h8_⟩
      have n9_ : Aside0 (gb269 ≠ gb285) := ⟨h9_⟩
      have n10_ : Aside0 (gb285 ≠ gb269) := ⟨h10_⟩
      have n11_ : Aside0 (Below w.heap.size w w26) := ⟨h11_⟩
      clear HO_6 HO_270005 BK262 BK269 HB h0_ h1_ h2_ h3_ h4_ h5_ h6_ h7_ h8_ h9_ h10_ h11_
      have HO281 := n0_; have HO_6 := n1_; have BK262 := n2_; have BK269 := n3_; have BK285 := n4_; have GW285 := n5_; have GE285 := n6_; have NB262_285 := n7_; have NB285_262 := n8_; have NB269_285 := n9_; have NB285_269 := n10_; have HB := n11_
      clear n0_ n1_ n2_ n3_ n4_ n5_ n6_ n7_ n8_ n9_ n10_ n11_
      have hHeld : w26.cell? ⟨gb269, 0, none⟩ = some (.int .i64 x270000_1) ∧ w26.cell? ⟨gb269, 1, none⟩ = some (.int .i64 x270001_1) ∧ w26.cell? ⟨gb269, 2, none⟩ = some (.int .i64 x270002_1) ∧ w26.cell? ⟨gb269, 3, none⟩ = some (.int .i64 x270003_1) ∧ w26.cell? ⟨gb269, 4, none⟩ = some (.int .i64 x270004_1) ∧ w26.cell? ⟨gb269, 5, none⟩ = some (.slice Ao22 x270005_1.length co22) ∧ w26.cell? (ad273.add ((x7_1).toNat * 5)) = some (.int .i64 ((rd_T34 l0 x7_1).f0)) ∧ w26.cell? ⟨(ad273.add ((x7_1).toNat * 5)).block, (ad273.add ((x7_1).toNat * 5)).off + 1, none⟩ = some (.string ((rd_T34 l0 x7_1).f1)) ∧ w26.cell? ⟨(ad273.add ((x7_1).toNat * 5)).block, (ad273.add ((x7_1).toNat * 5)).off + 2, none⟩ = some (.int .i64 ((rd_T34 l0 x7_1).f2)) ∧ w26.cell? ⟨(ad273.add ((x7_1).toNat * 5)).block, (ad273.add ((x7_1).toNat * 5)).off + 3, none⟩ = some (.int .i64 ((rd_T34 l0 x7_1).f3)) ∧ w26.cell? ⟨(ad273.add ((x7_1).toNat * 5)).block, (ad273.add ((x7_1).toNat * 5)).off + 4, none⟩ = some (.int .i64 ((rd_T34 l0 x7_1).f4)) := hS_
      refine norm_ (a' := ?_) ?_ ?_
      rotate_left
      ·simp only [YtnkceaibkfbeaaaW.PrintLast.putAll, Act.put, List.setIfInBounds_toArray, List.set_cons_zero, List.set_cons_succ]
       rfl
      refine one_ (i := 9) (N := some 8) b13A0 rfl rfl (one_of HT_.out zG83) zG84 (fun K hK => ?_)
      refine box_step ?hg (N := 8) ?hd (cs := (zs6 0 0 0 0 0 (.slice none 0 0))) (t := 29) ?hr ?_; (case hd => rfl); (case hg => rfl); (case hr => exact zH83)
      intro gb284 hg w27 hbox hb
      obtain ⟨n0_, n1_, n2_, n3_, n4_, n5_, n6_, n7_, n8_, n9_, n10_, n11_, n12_, n13_, n14_⟩ := zD15 (zo zG74 hb) (zo zK168 hb) (zq (g := gb262) (o := .cells (zs6 0 0 0 0 0 (.slice none 0 0)) 29 (0, 0)) zG65 hb) (zq (g := gb269) (o := .cells (zs6 x270000_1 x270001_1 x270002_1 x270003_1 x270004_1 (.slice Ao22 x270005_1.length co22)) 29 (0, 0)) zG66 hb) (zq (g := gb285) (o := .cells (zo2 0 0) 36 (0, 0)) zG68 hb) (zr zK135 hb) (hbox) ((by rw [hg]; exact (zp zK135) : w.heap.size ≤ gb284)) ((by rw [hg]; exact (zp zK135) : w.heap.size ≤ gb284)) ((by rw [hg]; exact Nat.ne_of_lt (zv (g := gb262) (o := .cells (zs6 0 0 0 0 0 (.slice none 0 0)) 29 (0, 0)) zG65) : gb262 ≠ gb284)) ((by rw [hg]; exact Nat.ne_of_gt (zv (g := gb262) (o := .cells (zs6 0 0 0 0 0 (.slice none 0 0)) 29 (0, 0)) zG65) : gb284 ≠ gb262)) ((by rw [hg]; exact Nat.ne_of_lt (zv (g := gb269) (o := .cells (zs6 x270000_1 x270001_1 x270002_1 x270003_1 x270004_1 (.slice Ao22 x270005_1.length co22)) 29 (0, 0)) zG66) : gb269 ≠ gb284)) ((by rw [hg]; exact Nat.ne_of_gt (zv (g := gb269) (o := .cells (zs6 x270000_1 x270001_1 x270002_1 x270003_1 x270004_1 (.slice Ao22 x270005_1.length co22)) 29 (0, 0)) zG66) : gb284 ≠ gb269)) ((by rw [hg]; exact Nat.ne_of_lt (zv (g := gb285) (o := .cells (zo2 0 0) 36 (0, 0)) zG68) : gb285 ≠ gb284)) ((by rw [hg]; exact Nat.ne_of_gt (zv (g := gb285) (o := .cells (zo2 0 0) 36 (0, 0)) zG68) : gb284 ≠ gb285))
      clear HO_6 HO281 BK262 BK269 BK285 HB
      have HO_6 := n0_; have HO281 := n1_; have BK262 := n2_; have BK269 := n3_; have BK285 := n4_; have HB := n5_; have BK284 := n6_; have GW284 := n7_; have GE284 := n8_; have NB262_284 := n9_; have NB284_262 := n10_; have NB269_284 := n11_; have NB284_269 := n12_; have NB285_284 := n13_; have NB284_285 := n14_
      clear n0_ n1_ n2_ n3_ n4_ n5_ n6_ n7_ n8_ n9_ n10_ n11_ n12_ n13_ n14_ hb hbox hg
      refine hK.out _ _ ⟨(blk_cell BK269.out 0).trans rfl, (blk_cell BK269.out 1).trans rfl, (blk_cell BK269.out 2).trans rfl, (blk_cell BK269.out 3).trans rfl, (blk_cell BK269.out 4).trans rfl, (blk_cell BK269.out 5).trans rfl, ((HB.out.cell (zb w _ hw273_0)).trans hw273_0), ((HB.out.cell (zb w _ hw273_1)).trans hw273_1), ((HB.out.cell (zb w _ hw273_2)).trans hw273_2), ((HB.out.cell (zb w _ hw273_3)).trans hw273_3), ((HB.out.cell (zb w _ hw273_4)).trans hw273_4)⟩ (fun hHeld => ?_)
      clear hK K
      refine norm_ (a' := ?_) ?_ ?_
      rotate_left
      ·show Act.put _ (some 8) _ = _
       simp only [Act.put, List.setIfInBounds_toArray, List.set_cons_zero, List.set_cons_succ, i64_w, i32_w]
       rfl
      exact norm_ zG51x (hJ5_9_10 (v280, gb284, gb285) _ ⟨hHeld, zK168, zG74, zG65, zG66, zG67, zG68, GW284.out, GE284.out, NB262_284.out, NB284_262.out, NB269_284.out, NB284_269.out, NB285_284.out, NB284_285.out, GW285.out, GE285.out, NB262_285.out, NB285_262.out, NB269_285.out, NB285_269.out, zK131⟩)
    ·skip
     rintro ⟨v280, gb284⟩ w26 ⟨hS_, h0_, h1_, h2_, h3_, h4_, h5_, h6_, h7_, h8_, h9_, h10_, h11_⟩
     have n0_ : Aside0 (Kd.R k38 38 w26 w.heap.size (fun _ => True) v280 t279) := ⟨h0_⟩
     have n1_ : Aside0 (Kd.R k36 36 w26 w.heap.size (fun _ => True) u6 x6_1) := ⟨h1_⟩
     have n2_ : Aside0 (w26.heap[gb262]? = some (.cells (zs6 0 0 0 0 0 (.slice none 0 0)) 29 (0, 0))) := ⟨h2_⟩
     have n3_ : Aside0 (w26.heap[gb269]? = some (.cells (zs6 x270000_1 x270001_1 x270002_1 x270003_1 x270004_1 (.slice Ao22 x270005_1.length co22)) 29 (0, 0))) := ⟨h3_⟩
     have n4_ : Aside0 (w26.heap[gb284]? = some (.cells (zs6 0 0 0 0 0 (.slice none 0 0)) 29 (0, 0))) := ⟨h4_⟩
     have n5_ : Aside0 (w.heap.size ≤ gb284) := ⟨h5_⟩
     have n6_ : Aside0 (w.heap.size ≤ gb284) := ⟨h6_⟩
     have n7_ : Aside0 (gb262 ≠ gb284) := ⟨h7_⟩
     have n8_ : Aside0 (gb284 ≠ gb262) := ⟨h8_⟩
     have n9_ : Aside0 (gb269 ≠ gb284) := ⟨h9_⟩
     have n10_ : Aside0 (gb284 ≠ gb269) := ⟨h10_⟩
     have n11_ : Aside0 (Below w.heap.size w w26) := ⟨h11_⟩
     clear HO_6 HO_270005 BK262 BK269 HB h0_ h1_ h2_ h3_ h4_ h5_ h6_ h7_ h8_ h9_ h10_ h11_
     have HO281 := n0_; have HO_6 := n1_; have BK262 := n2_; have BK269 := n3_; have BK284 := n4_; have GW284 := n5_; have GE284 := n6_; have NB262_284 := n7_; have NB284_262 := n8_; have NB269_284 := n9_; have NB284_269 := n10_; have HB := n11_
     clear n0_ n1_ n2_ n3_ n4_ n5_ n6_ n7_ n8_ n9_ n10_ n11_
     have hHeld : w26.cell? ⟨gb269, 0, none⟩ = some (.int .i64 x270000_1) ∧ w26.cell? ⟨gb269, 1, none⟩ = some (.int .i64 x270001_1) ∧ w26.cell? ⟨gb269, 2, none⟩ = some (.int .i64 x270002_1) ∧ w26.cell? ⟨gb269, 3, none⟩ = some (.int .i64 x270003_1) ∧ w26.cell? ⟨gb269, 4, none⟩ = some (.int .i64 x270004_1) ∧ w26.cell? ⟨gb269, 5, none⟩ = some (.slice Ao22 x270005_1.length co22) ∧ w26.cell? (ad273.add ((x7_1).toNat * 5)) = some (.int .i64 ((rd_T34 l0 x7_1).f0)) ∧ w26.cell? ⟨(ad273.add ((x7_1).toNat * 5)).block, (ad273.add ((x7_1).toNat * 5)).off + 1, none⟩ = some (.string ((rd_T34 l0 x7_1).f1)) ∧ w26.cell? ⟨(ad273.add ((x7_1).toNat * 5)).block, (ad273.add ((x7_1).toNat * 5)).off + 2, none⟩ = some (.int .i64 ((rd_T34 l0 x7_1).f2)) ∧ w26.cell? ⟨(ad273.add ((x7_1).toNat * 5)).block, (ad273.add ((x7_1).toNat * 5)).off + 3, none⟩ = some (.int .i64 ((rd_T34 l0 x7_1).f3)) ∧ w26.cell? ⟨(ad273.add ((x7_1).toNat * 5)).block, (ad273.add ((x7_1).toNat * 5)).off + 4, none⟩ = some (.int .i64 ((rd_T34 l0 x7_1).f4)) := hS_
     refine norm_ (a' := ?_) ?_ ?_
     rotate_left
     ·simp only [YtnkceaibkfbeaaaW.PrintLast.putAll, Act.put, List.setIfInBounds_toArray, List.set_cons_zero, List.set_cons_succ]
      rfl
     refine one_ (i := 10) (N := some 9) b13A0 rfl rfl (one_of HT_.out zG83) zG84 (fun K hK => ?_)
     refine box_step ?hg (N := 9) ?hd (cs := (zo2 0 0)) (t := 36) ?hr ?_; (case hd => rfl); (case hg => rfl); (case hr => exact zH83)
     intro gb285 hg w27 hbox hb
     obtain ⟨n0_, n1_, n2_, n3_, n4_, n5_, n6_, n7_, n8_, n9_, n10_, n11_, n12_, n13_, n14_⟩ := zD15 (zo (zs (Kd.R_elderB zG74 gb285 (Nat.le_of_eq hg.symm)) (fun _ h_ => h_.2)) hb) (zo zK168 hb) (zq (g := gb262) (o := .cells (zs6 0 0 0 0 0 (.slice none 0 0)) 29 (0, 0)) zG65 hb) (zq (g := gb269) (o := .cells (zs6 x270000_1 x270001_1 x270002_1 x270003_1 x270004_1 (.slice Ao22 x270005_1.length co22)) 29 (0, 0)) zG66 hb) (zq (g := gb284) (o := .cells (zs6 0 0 0 0 0 (.slice none 0 0)) 29 (0, 0)) zG67 hb) (zr zK134 hb) (hbox) ((by rw [hg]; exact (zp zK134) : w.heap.size ≤ gb285)) ((by rw [hg]; exact (zp zK134) : w.heap.size ≤ gb285)) ((by rw [hg]; exact Nat.ne_of_lt (zv (g := gb262) (o := .cells (zs6 0 0 0 0 0 (.slice none 0 0)) 29 (0, 0)) zG65) : gb262 ≠ gb285)) ((by rw [hg]; exact Nat.ne_of_gt (zv (g := gb262) (o := .cells (zs6 0 0 0 0 0 (.slice none 0 0)) 29 (0, 0)) zG65) : gb285 ≠ gb262)) ((by rw [hg]; exact Nat.ne_of_lt (zv (g := gb269) (o := .cells (zs6 x270000_1 x270001_1 x270002_1 x270003_1 x270004_1 (.slice Ao22 x270005_1.length co22)) 29 (0, 0)) zG66) : gb269 ≠ gb285)) ((by rw [hg]; exact Nat.ne_of_gt (zv (g := gb269) (o := .cells (zs6 x270000_1 x270001_1 x270002_1 x270003_1 x270004_1 (.slice Ao22 x270005_1.length co22)) 29 (0, 0)) zG66) : gb285 ≠ gb269)) ((by rw [hg]; exact Nat.ne_of_lt (zv (g := gb284) (o := .cells (zs6 0 0 0 0 0 (.slice none 0 0)) 29 (0, 0)) zG67) : gb284 ≠ gb285)) ((by rw [hg]; exact Nat.ne_of_gt (zv (g := gb284) (o := .cells (zs6 0 0 0 0 0 (.slice none 0 0)) 29 (0, 0)) zG67) : gb285 ≠ gb284))
     clear HO_6 HO281 BK262 BK269 BK284 HB
     have HO_6 := n0_; have HO281 := n1_; have BK262 := n2_; have BK269 := n3_; have BK284 := n4_; have HB := n5_; have BK285 := n6_; have GW285 := n7_; have GE285 := n8_; have NB262_285 := n9_; have NB285_262 := n10_; have NB269_285 := n11_; have NB285_269 := n12_; have NB284_285 := n13_; have NB285_284 := n14_
     clear n0_ n1_ n2_ n3_ n4_ n5_ n6_ n7_ n8_ n9_ n10_ n11_ n12_ n13_ n14_ hb hbox hg
     refine hK.out _ _ ⟨(blk_cell BK269.out 0).trans rfl, (blk_cell BK269.out 1).trans rfl, (blk_cell BK269.out 2).trans rfl, (blk_cell BK269.out 3).trans rfl, (blk_cell BK269.out 4).trans rfl, (blk_cell BK269.out 5).trans rfl, ((HB.out.cell (zb w _ hw273_0)).trans hw273_0), ((HB.out.cell (zb w _ hw273_1)).trans hw273_1), ((HB.out.cell (zb w _ hw273_2)).trans hw273_2), ((HB.out.cell (zb w _ hw273_3)).trans hw273_3), ((HB.out.cell (zb w _ hw273_4)).trans hw273_4)⟩ (fun hHeld => ?_)
     clear hK K
     refine norm_ (a' := ?_) ?_ ?_
     rotate_left
     ·show Act.put _ (some 9) _ = _
      simp only [Act.put, List.setIfInBounds_toArray, List.set_cons_zero, List.set_cons_succ, i64_w, i32_w]
      rfl
     exact norm_ zG51x (hJ5_9_10 (v280, gb284, gb285) _ ⟨hHeld, zK168, zG74, zG65, zG66, zG67, zG68, GW284.out, GE284.out, NB262_284.out, NB284_262.out, NB269_284.out, NB284_269.out, NB285_284.out, NB284_285.out, GW285.out, GE285.out, NB262_285.out, NB285_262.out, NB269_285.out, NB285_269.out, zK132⟩)
   rintro ⟨v280, gb284, gb285⟩ w27 ⟨hS_, h0_, h1_, h2_, h3_, h4_, h5_, h6_, h7_, h8_, h9_, h10_, h11_, h12_, h13_, h14_, h15_, h16_, h17_, h18_, h19_, h20_⟩
   have n0_ : Aside0 (Kd.R k38 38 w27 w.heap.size (fun _ => True) v280 t279) := ⟨h0_⟩
   have n1_ : Aside0 (Kd.R k36 36 w27 w.heap.size (fun k_ => k_ ≠ gb285) u6 x6_1) := ⟨h1_⟩
   have n2_ : Aside0 (w27.heap[gb262]? = some (.cells (zs6 0 0 0 0 0 (.slice none 0 0)) 29 (0, 0))) := ⟨h2_⟩
   have n3_ : Aside0 (w27.heap[gb269]? = some (.cells (zs6 x270000_1 x270001_1 x270002_1 x270003_1 x270004_1 (.slice Ao22 x270005_1.length co22)) 29 (0, 0))) := ⟨h3_⟩
   have n4_ : Aside0 (w27.heap[gb284]? = some (.cells (zs6 0 0 0 0 0 (.slice none 0 0)) 29 (0, 0))) := ⟨h4_⟩
   have n5_ : Aside0 (w27.heap[gb285]? = some (.cells (zo2 0 0) 36 (0, 0))) := ⟨h5_⟩
   have n6_ : Aside0 (w.heap.size ≤ gb284) := ⟨h6_⟩
   have n7_ : Aside0 (w.heap.size ≤ gb284) := ⟨h7_⟩
   have n8_ : Aside0 (gb262 ≠ gb284) := ⟨h8_⟩
   have n9_ : Aside0 (gb284 ≠ gb262) := ⟨h9_⟩
   have n10_ : Aside0 (gb269 ≠ gb284) := ⟨h10_⟩
   have n11_ : Aside0 (gb284 ≠ gb269) := ⟨h11_⟩
   have n12_ : Aside0 (gb285 ≠ gb284) := ⟨h12_⟩
   have n13_ : Aside0 (gb284 ≠ gb285) := ⟨h13_⟩
   have n14_ : Aside0 (w.heap.size ≤ gb285) := ⟨h14_⟩
   have n15_ : Aside0 (w.heap.size ≤ gb285) := ⟨h15_⟩
   have n16_ : Aside0 (gb262 ≠ gb285) := ⟨h16_⟩
   have n17_ : Aside0 (gb285 ≠ gb262) := ⟨h17_⟩
   have n18_ : Aside0 (gb269 ≠ gb285) := ⟨h18_⟩
   have n19_ : Aside0 (gb285 ≠ gb269) := ⟨h19_⟩
   have n20_ : Aside0 (Below w.heap.size w w27) := ⟨h20_⟩
   clear HO_6 HO_270005 BK262 BK269 HB h0_ h1_ h2_ h3_ h4_ h5_ h6_ h7_ h8_ h9_ h10_ h11_ h12_ h13_ h14_ h15_ h16_ h17_ h18_ h19_ h20_
   have HO281 := n0_; have HO_6 := n1_; have BK262 := n2_; have BK269 := n3_; have BK284 := n4_; have BK285 := n5_; have GW284 := n6_; have GE284 := n7_; have NB262_284 := n8_; have NB284_262 := n9_; have NB269_284 := n10_; have NB284_269 := n11_; have NB285_284 := n12_; have NB284_285 := n13_; have GW285 := n14_; have GE285 := n15_; have NB262_285 := n16_; have NB285_262 := n17_; have NB269_285 := n18_; have NB285_269 := n19_; have HB := n20_
   clear n0_ n1_ n2_ n3_ n4_ n5_ n6_ n7_ n8_ n9_ n10_ n11_ n12_ n13_ n14_ n15_ n16_ n17_ n18_ n19_ n20_
   have hHeld : w27.cell? ⟨gb269, 0, none⟩ = some (.int .i64 x270000_1) ∧ w27.cell? ⟨gb269, 1, none⟩ = some (.int .i64 x270001_1) ∧ w27.cell? ⟨gb269, 2, none⟩ = some (.int .i64 x270002_1) ∧ w27.cell? ⟨gb269, 3, none⟩ = some (.int .i64 x270003_1) ∧ w27.cell? ⟨gb269, 4, none⟩ = some (.int .i64 x270004_1) ∧ w27.cell? ⟨gb269, 5, none⟩ = some (.slice Ao22 x270005_1.length co22) ∧ w27.cell? (ad273.add ((x7_1).toNat * 5)) = some (.int .i64 ((rd_T34 l0 x7_1).f0)) ∧ w27.cell? ⟨(ad273.add ((x7_1).toNat * 5)).block, (ad273.add ((x7_1).toNat * 5)).off + 1, none⟩ = some (.string ((rd_T34 l0 x7_1).f1)) ∧ w27.cell? ⟨(ad273.add ((x7_1).toNat * 5)).block, (ad273.add ((x7_1).toNat * 5)).off + 2, none⟩ = some (.int .i64 ((rd_T34 l0 x7_1).f2)) ∧ w27.cell? ⟨(ad273.add ((x7_1).toNat * 5)).block, (ad273.add ((x7_1).toNat * 5)).off + 3, none⟩ = some (.int .i64 ((rd_T34 l0 x7_1).f3)) ∧ w27.cell? ⟨(ad273.add ((x7_1).toNat * 5)).block, (ad273.add ((x7_1).toNat * 5)).off + 4, none⟩ = some (.int .i64 ((rd_T34 l0 x7_1).f4)) := hS_
   obtain ⟨Ao33, co33, eo33⟩ := zx HO281.out
   (first | subst eo33 | (injection eo33 with f1_ f2_ f3_; have f4_ := f1_.symm; have f5_ := f3_.symm; clear f1_ f2_ f3_; subst f4_; subst f5_))
   refine norm_ (a' := ?_) ?_ ?_
   rotate_left
   ·simp only [YtnkceaibkfbeaaaW.PrintLast.putAll, Act.put, List.setIfInBounds_toArray, List.set_cons_zero, List.set_cons_succ]
    rfl
   refine one_ (i := 11) (N := none) #[true, true, true, true, true, true, true, true, true, true, true, true, false] rfl rfl (one_of HT_.out zG83) zG84 (fun K hK => ?_)
   have hs28 : w27.cell? ⟨gb284, 0, none⟩ = some (.int .i64 0) := (blk_cell BK284.out 0).trans rfl
   have hfs28 := zc BK284.out 0
   have hns28_0 := NB262_284.out
   have hns28_1 := NB269_284.out
   have hns28_3 := NB285_284.out
   have hms28_0 := NB284_262.out
   have hms28_1 := NB284_269.out
   have hms28_3 := NB284_285.out
   have hs29 : w27.cell? ⟨gb284, 1, none⟩ = some (.int .i64 0) := (blk_cell BK284.out 1).trans rfl
   have hfs29 := zc BK284.out 1
   have hns29_0 := NB262_284.out
   have hns29_1 := NB269_284.out
   have hns29_3 := NB285_284.out
   have hms29_0 := NB284_262.out
   have hms29_1 := NB284_269.out
   have hms29_3 := NB284_285.out
   have hs30 : w27.cell? ⟨gb284, 2, none⟩ = some (.int .i64 0) := (blk_cell BK284.out 2).trans rfl
   have hfs30 := zc BK284.out 2
   have hns30_0 := NB262_284.out
   have hns30_1 := NB269_284.out
   have hns30_3 := NB285_284.out
   have hms30_0 := NB284_262.out
   have hms30_1 := NB284_269.out
   have hms30_3 := NB284_285.out
   have hs31 : w27.cell? ⟨gb284, 3, none⟩ = some (.int .i64 0) := (blk_cell BK284.out 3).trans rfl
   have hfs31 := zc BK284.out 3
   have hns31_0 := NB262_284.out
   have hns31_1 := NB269_284.out
   have hns31_3 := NB285_284.out
   have hms31_0 := NB284_262.out
   have hms31_1 := NB284_269.out
   have hms31_3 := NB284_285.out
   have hs32 : w27.cell? ⟨gb284, 4, none⟩ = some (.int .i64 0) := (blk_cell BK284.out 4).trans rfl
   have hfs32 := zc BK284.out 4
   have hns32_0 := NB262_284.out
   have hns32_1 := NB269_284.out
   have hns32_3 := NB285_284.out
   have hms32_0 := NB284_262.out
   have hms32_1 := NB284_269.out
   have hms32_3 := NB284_285.out
   have hs34 : w27.cell? ⟨gb284, 5, none⟩ = some (.slice none 0 0) := (blk_cell BK284.out 5).trans rfl
   have hfs34 := zc BK284.out 5
   have hns34_0 := NB262_284.out
   have hns34_1 := NB269_284.out
   have hns34_3 := NB285_284.out
   have hms34_0 := NB284_262.out
   have hms34_1 := NB284_269.out
   have hms34_3 := NB284_285.out
   refine skip_ (w1 := ?_) (by rfl) rfl ?_ ?_
   rotate_left
   ·go_simp
    rfl
   refine hK.out _ _ ⟨((cell_far (p := ⟨gb284, _, none⟩) NB269_284.out _).trans (((cell_far (p := ⟨gb284, _, none⟩) NB269_284.out _).trans (((cell_far (p := ⟨gb284, _, none⟩) NB269_284.out _).trans (((cell_far (p := ⟨gb284, _, none⟩) NB269_284.out _).trans (((cell_far (p := ⟨gb284, _, none⟩) NB269_284.out _).trans (((cell_far (p := ⟨gb284, _, none⟩) NB269_284.out _).trans (hHeld.1)))))))))))), ((cell_far (p := ⟨gb284, _, none⟩) NB269_284.out _).trans (((cell_far (p := ⟨gb284, _, none⟩) NB269_284.out _).trans (((cell_far (p := ⟨gb284, _, none⟩) NB269_284.out _).trans (((cell_far (p := ⟨gb284, _, none⟩) NB269_284.out _).trans (((cell_far (p := ⟨gb284, _, none⟩) NB269_284.out _).trans (((cell_far (p := ⟨gb284, _, none⟩) NB269_284.out _).trans (hHeld.2.1)))))))))))), ((cell_far (p := ⟨gb284, _, none⟩) NB269_284.out _).trans (((cell_far (p := ⟨gb284, _, none⟩) NB269_284.out _).trans (((cell_far (p := ⟨gb284, _, none⟩) NB269_284.out _).trans (((cell_far (p := ⟨gb284, _, none⟩) NB269_284.out _).trans (((cell_far (p := ⟨gb284, _, none⟩) NB269_284.out _).trans (((cell_far (p := ⟨gb284, _, none⟩) NB269_284.out _).trans (hHeld.2.2.1)))))))))))), ((cell_far (p := ⟨gb284, _, none⟩) NB269_284.out _).trans (((cell_far (p := ⟨gb284, _, none⟩) NB269_284.out _).trans (((cell_far (p := ⟨gb284, _, none⟩) NB269_284.out _).trans (((cell_far (p := ⟨gb284, _, none⟩) NB269_284.out _).trans (((cell_far (p := ⟨gb284, _, none⟩) NB269_284.out _).trans (((cell_far (p := ⟨gb284, _, none⟩) NB269_284.out _).trans (hHeld.2.2.2.1)))))))))))), ((cell_far (p := ⟨gb284, _, none⟩) NB269_284.out _).trans (((cell_far (p := ⟨gb284, _, none⟩) NB269_284.out _).trans (((cell_far (p := ⟨gb284, _, none⟩) NB269_284.out _).trans (((cell_far (p := ⟨gb284, _, none⟩) NB269_284.out _).trans (((cell_far (p := ⟨gb284, _, none⟩) NB269_284.out _).trans (((cell_far (p := ⟨gb284, _, none⟩) NB269_284.out _).trans (hHeld.2.2.2.2.1)))))))))))), ((cell_far (p := ⟨gb284, _, none⟩) NB269_284.out _).trans (((cell_far (p := ⟨gb284, _, none⟩) NB269_284.out _).trans (((cell_far (p := ⟨gb284, _, none⟩) NB269_284.out _).trans (((cell_far (p := ⟨gb284, _, none⟩) NB269_284.out _).trans (((cell_far (p := ⟨gb284, _, none⟩) NB269_284.out _).trans (((cell_far (p := ⟨gb284, _, none⟩) NB269_284.out _).trans (hHeld.2.2.2.2.2.1)))))))))))), ((cell_far (p := ⟨gb284, _, none⟩) zK115 _).trans (((cell_far (p := ⟨gb284, _, none⟩) zK115 _).trans (((cell_far (p := ⟨gb284, _, none⟩) zK115 _).trans (((cell_far (p := ⟨gb284, _, none⟩) zK115 _).trans (((cell_far (p := ⟨gb284, _, none⟩) zK115 _).trans (((cell_far (p := ⟨gb284, _, none⟩) zK115 _).trans (hHeld.2.2.2.2.2.2.1)))))))))))), ((cell_far (p := ⟨gb284, _, none⟩) zK116 _).trans (((cell_far (p := ⟨gb284, _, none⟩) zK116 _).trans (((cell_far (p := ⟨gb284, _, none⟩) zK116 _).trans (((cell_far (p := ⟨gb284, _, none⟩) zK116 _).trans (((cell_far (p := ⟨gb284, _, none⟩) zK116 _).trans (((cell_far (p := ⟨gb284, _, none⟩) zK116 _).trans (hHeld.2.2.2.2.2.2.2.1)))))))))))), ((cell_far (p := ⟨gb284, _, none⟩) zK117 _).trans (((cell_far (p := ⟨gb284, _, none⟩) zK117 _).trans (((cell_far (p := ⟨gb284, _, none⟩) zK117 _).trans (((cell_far (p := ⟨gb284, _, none⟩) zK117 _).trans (((cell_far (p := ⟨gb284, _, none⟩) zK117 _).trans (((cell_far (p := ⟨gb284, _, none⟩) zK117 _).trans (hHeld.2.2.2.2.2.2.2.2.1)))))))))))), ((cell_far (p := ⟨gb284, _, none⟩) zK118 _).trans (((cell_far (p := ⟨gb284, _, none⟩) zK118 _).trans (((cell_far (p := ⟨gb284, _, none⟩) zK118 _).trans (((cell_far (p := ⟨gb284, _, none⟩) zK118 _).trans (((cell_far (p := ⟨gb284, _, none⟩) zK118 _).trans (((cell_far (p := ⟨gb284, _, none⟩) zK118 _).trans (hHeld.2.2.2.2.2.2.2.2.2.1)))))))))))), ((cell_far (p := ⟨gb284, _, none⟩) zK119 _).trans (((cell_far (p := ⟨gb284, _, none⟩) zK119 _).trans (((cell_far (p := ⟨gb284, _, none⟩) zK119 _).trans (((cell_far (p := ⟨gb284, _, none⟩) zK119 _).trans (((cell_far (p := ⟨gb284, _, none⟩) zK119 _).trans (((cell_far (p := ⟨gb284, _, none⟩) zK119 _).trans (hHeld.2.2.2.2.2.2.2.2.2.2))))))))))))⟩ (fun hHeld => ?_)
   clear hK K
   refine one_ (i := 12) (N := none) #[true, true, true, true, true, true, true, true, true, true, true, true, true] rfl rfl (one_of HT_.out zG83) zG84 (fun K hK => ?_)
   have hs35 : w27.cell? ⟨gb285, 0, none⟩ = some (.int .i64 0) := (blk_cell BK285.out 0).trans rfl
   have hfs35 := zc BK285.out 0
   have hns35_0 := NB262_285.out
   have hns35_1 := NB269_285.out
   have hns35_2 := NB284_285.out
   have hms35_0 := NB285_262.out
   have hms35_1 := NB285_269.out
   have hms35_2 := NB285_284.out
   have hs36 : w27.cell? ⟨gb285, 1, none⟩ = some (.int .i64 0) := (blk_cell BK285.out 1).trans rfl
   have hfs36 := zc BK285.out 1
   have hns36_0 := NB262_285.out
   have hns36_1 := NB269_285.out
   have hns36_2 := NB284_285.out
   have hms36_0 := NB285_262.out
   have hms36_1 := NB285_269.out
   have hms36_2 := NB285_284.out
   refine skip_ (w1 := ?_) (by rfl) rfl ?_ ?_
   rotate_left
   ·go_simp
    rfl
   refine hK.out _ _ ⟨((cell_far (p := ⟨gb285, _, none⟩) NB269_285.out _).trans (((cell_far (p := ⟨gb285, _, none⟩) NB269_285.out _).trans (hHeld.1)))), ((cell_far (p := ⟨gb285, _, none⟩) NB269_285.out _).trans (((cell_far (p := ⟨gb285, _, none⟩) NB269_285.out _).trans (hHeld.2.1)))), ((cell_far (p := ⟨gb285, _, none⟩) NB269_285.out _).trans (((cell_far (p := ⟨gb285, _, none⟩) NB269_285.out _).trans (hHeld.2.2.1)))), ((cell_far (p := ⟨gb285, _, none⟩) NB269_285.out _).trans (((cell_far (p := ⟨gb285, _, none⟩) NB269_285.out _).trans (hHeld.2.2.2.1)))), ((cell_far (p := ⟨gb285, _, none⟩) NB269_285.out _).trans (((cell_far (p := ⟨gb285, _, none⟩) NB269_285.out _).trans (hHeld.2.2.2.2.1)))), ((cell_far (p := ⟨gb285, _, none⟩) NB269_285.out _).trans (((cell_far (p := ⟨gb285, _, none⟩) NB269_285.out _).trans (hHeld.2.2.2.2.2.1)))), ((cell_far (p := ⟨gb285, _, none⟩) zK120 _).trans (((cell_far (p := ⟨gb285, _, none⟩) zK120 _).trans (hHeld.2.2.2.2.2.2.1)))), ((cell_far (p := ⟨gb285, _, none⟩) zK121 _).trans (((cell_far (p := ⟨gb285, _, none⟩) zK121 _).trans (hHeld.2.2.2.2.2.2.2.1)))), ((cell_far (p := ⟨gb285, _, none⟩) zK122 _).trans (((cell_far (p := ⟨gb285, _, none⟩) zK122 _).trans (hHeld.2.2.2.2.2.2.2.2.1)))), ((cell_far (p := ⟨gb285, _, none⟩) zK123 _).trans (((cell_far (p := ⟨gb285, _, none⟩) zK123 _).trans (hHeld.2.2.2.2.2.2.2.2.2.1)))), ((cell_far (p := ⟨gb285, _, none⟩) zK124 _).trans (((cell_far (p := ⟨gb285, _, none⟩) zK124 _).trans (hHeld.2.2.2.2.2.2.2.2.2.2))))⟩ (fun hHeld => ?_)
   clear hK K
   refine done_ (done_of HT_.out zG83) ?_
   have hnb37 := NB284_262.out
   have hnc37 := NB262_284.out
   have hnb38 := NB284_269.out
   have hnc38 := NB269_284.out
   have hnb39 := NB284_285.out
   have hnc39 := NB285_284.out
   obtain ⟨hcz40_0, hcz40_1, hcz40_2, hcz40_3, hcz40_4, hcz40_5, hfz40_0, hfz40_1, hfz40_2, hfz40_3, hfz40_4, hfz40_5⟩ := zB6 BK284.out
   have hnb41 := NB269_262.out
   have hnc41 := NB262_269.out
   have hnb42 := NB269_285.out
   have hnc42 := NB285_269.out
   obtain ⟨hcz43_0, hcz43_1, hcz43_2, hcz43_3, hcz43_4, hcz43_5, hfz43_0, hfz43_1, hfz43_2, hfz43_3, hfz43_4, hfz43_5⟩ := zB6 BK269.out
   have hnb44 := NB285_262.out
   have hnc44 := NB262_285.out
   obtain ⟨hcz45_0, hcz45_1, hfz45_0, hfz45_1⟩ := zB2 BK285.out
   try go_wp2_with (first | ((with_reducible refine gate_builtin (b := .append) (xs := #[.tmp 38, .tmp 40]) rfl ?_); at_builtin; refine Kd.R_append k36 (w0 := w) w.heap.size rfl (.tmp 38) (.tmp 40) 26 36 (.agg #[(.int .i64 0), (.int .i64 0)]) 16 rfl Try.underlying26 info36 rfl zG84 (by omega) u6 x6_1 (⟨t282, t283⟩ : S36) [.int .i64 t282, .int .i64 t283] (fun k_ => k_ ≠ gb285) (fun _ => False) rfl (by first | (go_simp; done) | (go_simp; rfl)) ?aP (fun _ hk => hk.elim) ?aF ?aO ?aB ?aS ?aL ?_; (case aP => exact k36_mkM _ _ _ (⟨t282, t283⟩ : S36)); (case aB => exact zK132); (case aF => exact (fun k_ hk => Kd.freshB (g := gb285) (o := .cells (zo2 t282 t283) 36 (0, 0)) zK91 k_ hk)); (case aO => exact (by (with_reducible repeat (first | apply zk | apply zl | apply zn)); exact zs (zm (p := ⟨gb269, 5, none⟩) (zm (p := ⟨gb269, 4, none⟩) (zm (p := ⟨gb269, 3, none⟩) (zm (p := ⟨gb269, 2, none⟩) (zm (p := ⟨gb269, 1, none⟩) (zm (p := ⟨gb269, 0, none⟩) (zm (p := ⟨gb285, 1, none⟩) (zm (p := ⟨gb285, 0, none⟩) (zm (p := ⟨gb284, 5, none⟩) (zm (p := ⟨gb284, 4, none⟩) (zm (p := ⟨gb284, 3, none⟩) (zm (p := ⟨gb284, 2, none⟩) (zm (p := ⟨gb284, 1, none⟩) (zm (p := ⟨gb284, 0, none⟩) (zw (zs (zw HO_6.out BK284.out zG84) (fun k_ hk => (⟨hk, hk.1⟩ : _ ∧ k_ ≠ gb285))) BK269.out zG84) (fun _ hk => hk.1.1.2) (.int .i64 t274)) (fun _ hk => hk.1.1.2) (.int .i64 t275)) (fun _ hk => hk.1.1.2) (.int .i64 t276)) (fun _ hk => hk.1.1.2) (.int .i64 t277)) (fun _ hk => hk.1.1.2) (.int .i64 t278)) (fun _ hk => hk.1.1.2) (.slice Ao33 t279.length co33)) (fun _ hk => hk.1.2) (.int .i64 t282)) (fun _ hk => hk.1.2) (.int .i64 t283)) (fun _ hk => hk.2) (.int .i64 t274)) (fun _ hk => hk.2) (.int .i64 t275)) (fun _ hk => hk.2) (.int .i64 t276)) (fun _ hk => hk.2) (.int .i64 t277)) (fun _ hk => hk.2) (.int .i64 t278)) (fun _ hk => hk.2) (.slice Ao33 t279.length co33)) (fun _ hk => hk.1.1.1))); (case aS => exact (zp zK132)); (case aL => have := LMc21.out; omega); intro v287 w46 ho hb hg hat; rw [← Ny286.out] at ho; have n_ := zA_ (za (zao (g := gb262) (o := .cells (zs6 0 0 0 0 0 (.slice none 0 0)) 29 (0, 0)) (by (with_reducible repeat (first | refine zf ?_ _ | refine zg ?_ | refine ze ?_ _)); refine zt ?_ NB262_269.out _; (with_reducible repeat (first | refine zf ?_ _ | refine zg ?_ | refine ze ?_ _)); refine zt ?_ NB262_269.out _; (with_reducible repeat (first | refine zf ?_ _ | refine zg ?_ | refine ze ?_ _)); refine zt ?_ NB262_269.out _; (with_reducible repeat (first | refine zf ?_ _ | refine zg ?_ | refine ze ?_ _)); refine zt ?_ NB262_269.out _; (with_reducible repeat (first | refine zf ?_ _ | refine zg ?_ | refine ze ?_ _)); refine zt ?_ NB262_269.out _; (with_reducible repeat (first | refine zf ?_ _ | refine zg ?_ | refine ze ?_ _)); refine zt ?_ NB262_269.out _; (with_reducible repeat (first | refine zf ?_ _ | refine zg ?_ | refine ze ?_ _)); refine zt ?_ NB262_285.out _; (with_reducible repeat (first | refine zf ?_ _ | refine zg ?_ | refine ze ?_ _)); refine zt ?_ NB262_285.out _; (with_reducible repeat (first | refine zf ?_ _ | refine zg ?_ | refine ze ?_ _)); refine zt ?_ NB262_284.out _; (with_reducible repeat (first | refine zf ?_ _ | refine zg ?_ | refine ze ?_ _)); refine zt ?_ NB262_284.out _; (with_reducible repeat (first | refine zf ?_ _ | refine zg ?_ | refine ze ?_ _)); refine zt ?_ NB262_284.out _; (with_reducible repeat (first | refine zf ?_ _ | refine zg ?_ | refine ze ?_ _)); refine zt ?_ NB262_284.out _; (with_reducible repeat (first | refine zf ?_ _ | refine zg ?_ | refine ze ?_ _)); refine zt ?_ NB262_284.out _; (with_reducible repeat (first | refine zf ?_ _ | refine zg ?_ | refine ze ?_ _)); refine zt ?_ NB262_284.out _; (with_reducible repeat (first | refine zf ?_ _ | refine zg ?_ | refine ze ?_ _)); exact BK262.out) hg (zad HO_6.out BK262.out zG84))) (zA_ (za (zao (g := gb269) (o := .cells (zs6 t274 t275 t276 t277 t278 (.slice Ao33 t279.length co33)) 29 (0, 0)) (by (with_reducible repeat (first | refine zf ?_ _ | refine zg ?_ | refine ze ?_ _)); refine zu (cs := (zs6 t274 t275 t276 t277 t278 (.slice Ao22 x270005_1.length co22))) ?_ 5 _ rfl; (with_reducible repeat (first | refine zf ?_ _ | refine zg ?_ | refine ze ?_ _)); refine zu (cs := (zs6 t274 t275 t276 t277 x270004_1 (.slice Ao22 x270005_1.length co22))) ?_ 4 _ rfl; (with_reducible repeat (first | refine zf ?_ _ | refine zg ?_ | refine ze ?_ _)); refine zu (cs := (zs6 t274 t275 t276 x270003_1 x270004_1 (.slice Ao22 x270005_1.length co22))) ?_ 3 _ rfl; (with_reducible repeat (first | refine zf ?_ _ | refine zg ?_ | refine ze ?_ _)); refine zu (cs := (zs6 t274 t275 x270002_1 x270003_1 x270004_1 (.slice Ao22 x270005_1.length co22))) ?_ 2 _ rfl; (with_reducible repeat (first | refine zf ?_ _ | refine zg ?_ | refine ze ?_ _)); refine zu (cs := (zs6 t274 x270001_1 x270002_1 x270003_1 x270004_1 (.slice Ao22 x270005_1.length co22))) ?_ 1 _ rfl; (with_reducible repeat (first | refine zf ?_ _ | refine zg ?_ | refine ze ?_ _)); refine zu (cs := (zs6 x270000_1 x270001_1 x270002_1 x270003_1 x270004_1 (.slice Ao22 x270005_1.length co22))) ?_ 0 _ rfl; (with_reducible repeat (first | refine zf ?_ _ | refine zg ?_ | refine ze ?_ _)); refine zt ?_ NB269_285.out _; (with_reducible repeat (first | refine zf ?_ _ | refine zg ?_ | refine ze ?_ _)); refine zt ?_ NB269_285.out _; (with_reducible repeat (first | refine zf ?_ _ | refine zg ?_ | refine ze ?_ _)); refine zt ?_ NB269_284.out _; (with_reducible repeat (first | refine zf ?_ _ | refine zg ?_ | refine ze ?_ _)); refine zt ?_ NB269_284.out _; (with_reducible repeat (first | refine zf ?_ _ | refine zg ?_ | refine ze ?_ _)); refine zt ?_ NB269_284.out _; (with_reducible repeat (first | refine zf ?_ _ | refine zg ?_ | refine ze ?_ _)); refine zt ?_ NB269_284.out _; (with_reducible repeat (first | refine zf ?_ _ | refine zg ?_ | refine ze ?_ _)); refine zt ?_ NB269_284.out _; (with_reducible repeat (first | refine zf ?_ _ | refine zg ?_ | refine ze ?_ _)); refine zt ?_ NB269_284.out _; (with_reducible repeat (first | refine zf ?_ _ | refine zg ?_ | refine ze ?_ _)); exact BK269.out) hg (zad HO_6.out BK269.out zG84))) (zA_ (za (Kd.R_over' (by (with_reducible repeat (first | apply zk | apply zl | apply zn)); exact (zs (zs (zs (zm (p := ⟨gb269, 5, none⟩) (zm (p := ⟨gb269, 4, none⟩) (zm (p := ⟨gb269, 3, none⟩) (zm (p := ⟨gb269, 2, none⟩) (zm (p := ⟨gb269, 1, none⟩) (zm (p := ⟨gb269, 0, none⟩) (zm (p := ⟨gb285, 1, none⟩) (zm (p := ⟨gb285, 0, none⟩) (zm (p := ⟨gb284, 5, none⟩) (zm (p := ⟨gb284, 4, none⟩) (zm (p := ⟨gb284, 3, none⟩) (zm (p := ⟨gb284, 2, none⟩) (zm (p := ⟨gb284, 1, none⟩) (zm (p := ⟨gb284, 0, none⟩) (zw (zw (zw HO281.out BK284.out zG84) BK285.out zG84) BK269.out zG84) (fun _ hk => hk.1.1.2) (.int .i64 t274)) (fun _ hk => hk.1.1.2) (.int .i64 t275)) (fun _ hk => hk.1.1.2) (.int .i64 t276)) (fun _ hk => hk.1.1.2) (.int .i64 t277)) (fun _ hk => hk.1.1.2) (.int .i64 t278)) (fun _ hk => hk.1.1.2) (.slice Ao33 t279.length co33)) (fun _ hk => hk.1.2) (.int .i64 t282)) (fun _ hk => hk.1.2) (.int .i64 t283)) (fun _ hk => hk.2) (.int .i64 t274)) (fun _ hk => hk.2) (.int .i64 t275)) (fun _ hk => hk.2) (.int .i64 t276)) (fun _ hk => hk.2) (.int .i64 t277)) (fun _ hk => hk.2) (.int .i64 t278)) (fun _ hk => hk.2) (.slice Ao33 t279.length co33)) (fun _ h_ => h_.1)) (fun _ h_ => h_.1)) (fun _ h_ => h_.1))) (zaf (by (with_reducible repeat (first | apply zk | apply zl | apply zn)); exact (zs (zs (zs (zm (p := ⟨gb269, 5, none⟩) (zm (p := ⟨gb269, 4, none⟩) (zm (p := ⟨gb269, 3, none⟩) (zm (p := ⟨gb269, 2, none⟩) (zm (p := ⟨gb269, 1, none⟩) (zm (p := ⟨gb269, 0, none⟩) (zm (p := ⟨gb285, 1, none⟩) (zm (p := ⟨gb285, 0, none⟩) (zm (p := ⟨gb284, 5, none⟩) (zm (p := ⟨gb284, 4, none⟩) (zm (p := ⟨gb284, 3, none⟩) (zm (p := ⟨gb284, 2, none⟩) (zm (p := ⟨gb284, 1, none⟩) (zm (p := ⟨gb284, 0, none⟩) (zw (zs (zw HO_6.out BK284.out zG84) (fun k_ hk => (⟨hk, hk.1⟩ : _ ∧ k_ ≠ gb285))) BK269.out zG84) (fun _ hk => hk.1.1.2) (.int .i64 t274)) (fun _ hk => hk.1.1.2) (.int .i64 t275)) (fun _ hk => hk.1.1.2) (.int .i64 t276)) (fun _ hk => hk.1.1.2) (.int .i64 t277)) (fun _ hk => hk.1.1.2) (.int .i64 t278)) (fun _ hk => hk.1.1.2) (.slice Ao33 t279.length co33)) (fun _ hk => hk.1.2) (.int .i64 t282)) (fun _ hk => hk.1.2) (.int .i64 t283)) (fun _ hk => hk.2) (.int .i64 t274)) (fun _ hk => hk.2) (.int .i64 t275)) (fun _ hk => hk.2) (.int .i64 t276)) (fun _ hk => hk.2) (.int .i64 t277)) (fun _ hk => hk.2) (.int .i64 t278)) (fun _ hk => hk.2) (.slice Ao33 t279.length co33)) (fun _ h_ => h_.1)) (fun _ h_ => h_.1)) (fun _ h_ => h_.1)))) zG84 hg)) (zA_ (za (zao (g := gb284) (o := .cells (zs6 t274 t275 t276 t277 t278 (.slice Ao33 t279.length co33)) 29 (0, 0)) (by (with_reducible repeat (first | refine zf ?_ _ | refine zg ?_ | refine ze ?_ _)); refine zt ?_ NB284_269.out _; (with_reducible repeat (first | refine zf ?_ _ | refine zg ?_ | refine ze ?_ _)); refine zt ?_ NB284_269.out _; (with_reducible repeat (first | refine zf ?_ _ | refine zg ?_ | refine ze ?_ _)); refine zt ?_ NB284_269.out _; (with_reducible repeat (first | refine zf ?_ _ | refine zg ?_ | refine ze ?_ _)); refine zt ?_ NB284_269.out _; (with_reducible repeat (first | refine zf ?_ _ | refine zg ?_ | refine ze ?_ _)); refine zt ?_ NB284_269.out _; (with_reducible repeat (first | refine zf ?_ _ | refine zg ?_ | refine ze ?_ _)); refine zt ?_ NB284_269.out _; (with_reducible repeat (first | refine zf ?_ _ | refine zg ?_ | refine ze ?_ _)); refine zt ?_ NB284_285.out _; (with_reducible repeat (first | refine zf ?_ _ | refine zg ?_ | refine ze ?_ _)); refine zt ?_ NB284_285.out _; (with_reducible repeat (first | refine zf ?_ _ | refine zg ?_ | refine ze ?_ _)); refine zu (cs := (zs6 t274 t275 t276 t277 t278 (.slice none 0 0))) ?_ 5 _ rfl; (with_reducible repeat (first | refine zf ?_ _ | refine zg ?_ | refine ze ?_ _)); refine zu (cs := (zs6 t274 t275 t276 t277 0 (.slice none 0 0))) ?_ 4 _ rfl; (with_reducible repeat (first | refine zf ?_ _ | refine zg ?_ | refine ze ?_ _)); refine zu (cs := (zs6 t274 t275 t276 0 0 (.slice none 0 0))) ?_ 3 _ rfl; (with_reducible repeat (first | refine zf ?_ _ | refine zg ?_ | refine ze ?_ _)); refine zu (cs := (zs6 t274 t275 0 0 0 (.slice none 0 0))) ?_ 2 _ rfl; (with_reducible repeat (first | refine zf ?_ _ | refine zg ?_ | refine ze ?_ _)); refine zu (cs := (zs6 t274 0 0 0 0 (.slice none 0 0))) ?_ 1 _ rfl; (with_reducible repeat (first | refine zf ?_ _ | refine zg ?_ | refine ze ?_ _)); refine zu (cs := (zs6 0 0 0 0 0 (.slice none 0 0))) ?_ 0 _ rfl; (with_reducible repeat (first | refine zf ?_ _ | refine zg ?_ | refine ze ?_ _)); exact BK284.out) hg (zad HO_6.out BK284.out zG84))) (zA_ (za (zao (g := gb285) (o := .cells (zo2 t282 t283) 36 (0, 0)) zK91 hg (Kd.R_away HO_6.out (fun _ hk => hk)))) (zA_ (za (hb)) (za (ho))))))); clear BK262 BK269 HO281 BK284 BK285 HB HO_6; obtain ⟨BK262, BK269, HO281, BK284, BK285, HB, HO288⟩ := n_; clear ho hb hg hat))
   go_roundg k1
   case measure => have := HK1.out; omega
   case rel => exact ⟨(y286), (wrap64 (x7_1 + 1)), (t274), (t275), (t276), (t277), (t278), (t279), (.slice Ao33 t279.length co33), zG82, H', ⟨zH88⟩, ⟨by (with_reducible repeat (first | apply zk | apply zl | apply zn)); exact zs HO288.out (fun _ hk => trivial)⟩, ⟨by (with_reducible repeat (first | apply zk | apply zl | apply zn)); exact HO281.out⟩, ⟨by (with_reducible repeat (first | refine zf ?_ _ | refine zg ?_ | refine ze ?_ _)); exact BK262.out⟩, ⟨by (with_reducible repeat (first | refine zf ?_ _ | refine zg ?_ | refine ze ?_ _)); exact BK269.out⟩, ⟨by repeat (first | (with_reducible first | exact HB.out | apply zi | apply zd | apply zh | refine zj ?_ GE262.out | refine zj ?_ GE269.out | refine zj ?_ GE284.out | refine zj ?_ GE285.out) | exact HB.out)⟩⟩
end Go.Proofs.Ytnkceaibkfbeaaa.E
