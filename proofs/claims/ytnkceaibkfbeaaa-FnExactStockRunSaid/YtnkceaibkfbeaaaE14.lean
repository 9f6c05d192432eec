-- squeezed
-- made by pp.py (wip/tools) out of the translation; Lean checks it
import Derived.Test.YtnkceaibkfbeaaaE0
namespace Go.Proofs.Ytnkceaibkfbeaaa.E
open Go.RowKit Go.Proofs.YtnkceaibkfbeaaaW.PrintWords Go.Proofs.YtnkceaibkfbeaaaW.PrintLast Go.Proofs.YtnkceaibkfbeaaaW.PrintMore
attribute [local go_sem] max2_int min2_int max_two min_two max_three min_three max_four min_four   -- for this text's walks alone
set_option linter.unusedVariables false
set_option linter.unusedSimpArgs false

abbrev b14A0 := zM 10 0
abbrev b14A1 := zM 10 1
abbrev b14A2 := zM 10 3
abbrev b14A3 := zM 10 7
abbrev b14A4 := zM 10 23
abbrev b14A5 := zM 10 55
abbrev b14A6 := zM 10 119
abbrev b14A7 := zM 10 127
abbrev b14A8 := zM 10 255
abbrev b14A9 := zM 10 511
abbrev b14A10 := zM 10 1023
abbrev q14a := @blk_cell
/-! ### laws_toStockAct: function 27 -/
def laws_toStockAct.f (a0_0 : Int) (a0_1 : ByteArray) (a0_2 : Int) (a0_3 : Int) (a0_4 : Int) : Option (Int × ByteArray × Int × Int × Int) := some (a0_0, a0_1, a0_2, a0_3, a0_4)
set_option maxHeartbeats 64000000 in
set_option maxRecDepth 100000 in
theorem laws_toStockAct.calls (a0_0 : Int) (a0_1 : ByteArray) (a0_2 : Int) (a0_3 : Int) (a0_4 : Int) (r1 : Int) (r2 : ByteArray) (r3 : Int) (r4 : Int) (r5 : Int) (w : World) (h : laws_toStockAct.f a0_0 a0_1 a0_2 a0_3 a0_4 = some (r1, r2, r3, r4, r5)) :
  Calls Try.prog 27 #[.agg (za5 a0_0 a0_1 a0_2 a0_3 a0_4)] w fun e w' => e = .returned (.agg (za5 r1 r2 r3 r4 r5)) ∧ Below w.heap.size w w' := by
 have hu57 := Try.underlying57
 have hu34 := Try.underlying34
 have HB := za (Below.refl w.heap.size w)
 have H : (some (a0_0, a0_1, a0_2, a0_3, a0_4)) = some (r1, r2, r3, r4, r5) := h
 clear h
 simp only [Option.some.injEq, Prod.mk.injEq] at H
 obtain ⟨rfl, rfl, rfl, rfl, rfl⟩ := H
 go_enter Try.func27, Try.ntmps27
 go_wp2_with (first | ((with_reducible refine gate_dst (N := 1) rfl ?_); refine box_event ?hg (N := 1) ?hd (cs := (za5 a0_0 a0_1 a0_2 a0_3 a0_4)) (t := 57) ?hr ?_; (case hd => rfl); (case hg => rfl); (case hr => exact zH83); intro gb289 hg w2 hbox hb; have n_ := zA_ (za (zr zG60 hb)) (zA_ (za (hbox)) (zA_ (zN1 w.heap.size hg (zp zG60)) (zN1 w.heap.size hg (zp zG60)))); clear HB; obtain ⟨HB, BK289, GW289, GE289⟩ := n_; clear hb hbox hg) | ((with_reducible refine gate_dst (N := 2) rfl ?_); refine box_event ?hg (N := 2) ?hd (cs := (za5 0 (⟨#[]⟩ : ByteArray) 0 0 0)) (t := 34) ?hr ?_; (case hd => rfl); (case hg => rfl); (case hr => exact zH83); intro gb290 hg w3 hbox hb; have n_ := zA_ (za (zq (g := gb289) (o := .cells (za5 a0_0 a0_1 a0_2 a0_3 a0_4) 57 (0, 0)) zK155 hb)) (zA_ (za (zr zK146 hb)) (zA_ (za (hbox)) (zA_ (zN1 w.heap.size hg (zp zK146)) (zA_ (zN1 w.heap.size hg (zp zK146)) (zN2 hg (zv (g := gb289) (o := .cells (za5 a0_0 a0_1 a0_2 a0_3 a0_4) 57 (0, 0)) zK155)))))); clear BK289 HB; obtain ⟨BK289, HB, BK290, GW290, GE290, NB289_290, NB290_289⟩ := n_; clear hb hbox hg) | ((with_reducible refine gate_dst (N := 3) rfl ?_); refine box_event ?hg (N := 3) ?hd (cs := (za5 0 (⟨#[]⟩ : ByteArray) 0 0 0)) (t := 34) ?hr ?_; (case hd => rfl); (case hg => rfl); (case hr => exact zH83); intro gb291 hg w4 hbox hb; have n_ := zA_ (za (zq (g := gb289) (o := .cells (za5 a0_0 a0_1 a0_2 a0_3 a0_4) 57 (0, 0)) zK155 hb)) (zA_ (za (zq (g := gb290) (o := .cells (za5 0 (⟨#[]⟩ : ByteArray) 0 0 0) 34 (0, 0)) zK156 hb)) (zA_ (za (zr zK139 hb)) (zA_ (za (hbox)) (zA_ (zN1 w.heap.size hg (zp zK139)) (zA_ (zN1 w.heap.size hg (zp zK139)) (zN3 hg (zv (g := gb289) (o := .cells (za5 a0_0 a0_1 a0_2 a0_3 a0_4) 57 (0, 0)) zK155) (zN2 hg (zv (g := gb290) (o := .cells (za5 0 (⟨#[]⟩ : ByteArray) 0 0 0) 34 (0, 0)) zK156)))))))); clear BK289 BK290 HB; obtain ⟨BK289, BK290, HB, BK291, GW291, GE291, NB289_291, NB291_289, NB290_291, NB291_290⟩ := n_; clear hb hbox hg; have hnb5 := NB289_290.out; have hnc5 := NB290_289.out; have hnb6 := NB289_291.out; have hnc6 := NB291_289.out; have hcz7_0 : w4.cell? ⟨gb289, 0, none⟩ = some (.int .i64 a0_0) := (q14a BK289.out 0).trans rfl; have hcz7_1 : w4.cell? ⟨gb289, 1, none⟩ = some (.string a0_1) := (q14a BK289.out 1).trans rfl; have hcz7_2 : w4.cell? ⟨gb289, 2, none⟩ = some (.int .i64 a0_2) := (q14a BK289.out 2).trans rfl; have hcz7_3 : w4.cell? ⟨gb289, 3, none⟩ = some (.int .i64 a0_3) := (q14a BK289.out 3).trans rfl; have hcz7_4 : w4.cell? ⟨gb289, 4, none⟩ = some (.int .i64 a0_4) := (q14a BK289.out 4).trans rfl; have hfz7_0 := zc BK289.out 0; have hfz7_1 := zc BK289.out 1; have hfz7_2 := zc BK289.out 2; have hfz7_3 := zc BK289.out 3; have hfz7_4 := zc BK289.out 4; have hnb8 := NB291_290.out; have hnc8 := NB290_291.out; have hcz9_0 : w4.cell? ⟨gb291, 0, none⟩ = some (.int .i64 0) := (q14a BK291.out 0).trans rfl; have hcz9_1 : w4.cell? ⟨gb291, 1, none⟩ = some (.string (⟨#[]⟩ : ByteArray)) := (q14a BK291.out 1).trans rfl; have hcz9_2 : w4.cell? ⟨gb291, 2, none⟩ = some (.int .i64 0) := (q14a BK291.out 2).trans rfl; have hcz9_3 : w4.cell? ⟨gb291, 3, none⟩ = some (.int .i64 0) := (q14a BK291.out 3).trans rfl; have hcz9_4 : w4.cell? ⟨gb291, 4, none⟩ = some (.int .i64 0) := (q14a BK291.out 4).trans rfl; have hfz9_0 := zc BK291.out 0; have hfz9_1 := zc BK291.out 1; have hfz9_2 := zc BK291.out 2; have hfz9_3 := zc BK291.out 3; have hfz9_4 := zc BK291.out 4; have hcz10_0 : w4.cell? ⟨gb290, 0, none⟩ = some (.int .i64 0) := (q14a BK290.out 0).trans rfl; have hcz10_1 : w4.cell? ⟨gb290, 1, none⟩ = some (.string (⟨#[]⟩ : ByteArray)) := (q14a BK290.out 1).trans rfl; have hcz10_2 : w4.cell? ⟨gb290, 2, none⟩ = some (.int .i64 0) := (q14a BK290.out 2).trans rfl; have hcz10_3 : w4.cell? ⟨gb290, 3, none⟩ = some (.int .i64 0) := (q14a BK290.out 3).trans rfl; have hcz10_4 : w4.cell? ⟨gb290, 4, none⟩ = some (.int .i64 0) := (q14a BK290.out 4).trans rfl; have hfz10_0 := zc BK290.out 0; have hfz10_1 := zc BK290.out 1; have hfz10_2 := zc BK290.out 2; have hfz10_3 := zc BK290.out 3; have hfz10_4 := zc BK290.out 4))
 refine bodyPost_ret (results_cell_row rfl _ _ gb290 34 (za5 a0_0 a0_1 a0_2 a0_3 a0_4) (0, 0) _ rfl (by (with_reducible repeat (first | refine zf ?_ _ | refine zg ?_ | refine ze ?_ _)); refine zu (cs := (za5 a0_0 a0_1 a0_2 a0_3 0)) ?_ 4 _ rfl; (with_reducible repeat (first | refine zf ?_ _ | refine zg ?_ | refine ze ?_ _)); refine zu (cs := (za5 a0_0 a0_1 a0_2 0 0)) ?_ 3 _ rfl; (with_reducible repeat (first | refine zf ?_ _ | refine zg ?_ | refine ze ?_ _)); refine zu (cs := (za5 a0_0 a0_1 0 0 0)) ?_ 2 _ rfl; (with_reducible repeat (first | refine zf ?_ _ | refine zg ?_ | refine ze ?_ _)); refine zu (cs := (za5 a0_0 (⟨#[]⟩ : ByteArray) 0 0 0)) ?_ 1 _ rfl; (with_reducible repeat (first | refine zf ?_ _ | refine zg ?_ | refine ze ?_ _)); refine zu (cs := (za5 0 (⟨#[]⟩ : ByteArray) 0 0 0)) ?_ 0 _ rfl; (with_reducible repeat (first | refine zf ?_ _ | refine zg ?_ | refine ze ?_ _)); refine zt ?_ NB290_291.out _; (with_reducible repeat (first | refine zf ?_ _ | refine zg ?_ | refine ze ?_ _)); refine zt ?_ NB290_291.out _; (with_reducible repeat (first | refine zf ?_ _ | refine zg ?_ | refine ze ?_ _)); refine zt ?_ NB290_291.out _; (with_reducible repeat (first | refine zf ?_ _ | refine zg ?_ | refine ze ?_ _)); refine zt ?_ NB290_291.out _; (with_reducible repeat (first | refine zf ?_ _ | refine zg ?_ | refine ze ?_ _)); refine zt ?_ NB290_291.out _; (with_reducible repeat (first | refine zf ?_ _ | refine zg ?_ | refine ze ?_ _)); exact BK290.out) Try.underlying34 rfl zG83) rfl ?_
 exact ⟨zH68, by repeat (first | (with_reducible first | exact HB.out | apply zi | apply zd | apply zh | refine zj ?_ GE289.out | refine zj ?_ GE290.out | refine zj ?_ GE291.out) | exact HB.out)⟩

/-! ### laws_toStockActS: function 12 -/
def laws_toStockActS.l0 : Nat → List (S57) → List (S34) → Int → Option ((List (S34)))
 | 0, _, _, _ => none
 | k + 1, x0, x3, x4 => if x4 < (x0.length : Int) then (if 0 ≤ x4 then ((laws_toStockAct.f ((rd_T57 x0 x4).f0) ((rd_T57 x0 x4).f1) ((rd_T57 x0 x4).f2) ((rd_T57 x0 x4).f3) ((rd_T57 x0 x4).f4)).bind fun bt296 => (if x4 < (x3.length : Int) then (laws_toStockActS.l0 k x0 (x3.set (x4 : Int).toNat (⟨bt296.1, bt296.2.1, bt296.2.2.1, bt296.2.2.2.1, bt296.2.2.2.2⟩ : S34)) (wrap64 (x4 + 1))) else (none))) else (none)) else (some x3)
def laws_toStockActS.f (k : Nat) (l0 : List (S57)) : Option ((List (S34))) := if 0 ≤ (l0.length : Int) then (if ((l0.length : Int) : Int).toNat ≤ 5864062014805 then (laws_toStockActS.l0 k l0 (List.replicate ((l0.length : Int) : Int).toNat z34) 0) else (none)) else (none)
theorem laws_toStockActS.mono_l : ∀ k, (∀ y0 y1 y2, LeO (laws_toStockActS.l0 k y0 y1 y2) (laws_toStockActS.l0 (k + 1) y0 y1 y2))
 | 0 => fun _ _ _ r h => by simp [laws_toStockActS.l0] at h
 | k + 1 => by
  have ih0 := laws_toStockActS.mono_l k
  ·intro y0 y1 y2
   unfold laws_toStockActS.l0
   repeat' first
   | (with_reducible exact ih0 _ _ _)
   | (with_reducible exact LeO.refl _)
   | (with_reducible exact LeO.none _)
   | (with_reducible refine LeO.ite ?_ ?_)
   | (with_reducible refine LeO.bind ?_ (fun _ => ?_))
   | exact ih0 _ _ _
   | exact LeO.none _
   | refine LeO.ite ?_ ?_
   | refine LeO.bind ?_ (fun _ => ?_)
theorem laws_toStockActS.mono : ∀ a0 k, LeO (laws_toStockActS.f k a0) (laws_toStockActS.f (k + 1) a0) := by
 intro a0 k
 have ih0 := laws_toStockActS.mono_l k
 unfold laws_toStockActS.f
 repeat' first
   | (with_reducible exact ih0 _ _ _)
   | (with_reducible exact LeO.refl _)
   | (with_reducible exact LeO.none _)
   | (with_reducible refine LeO.ite ?_ ?_)
   | (with_reducible refine LeO.bind ?_ (fun _ => ?_))
   | exact ih0 _ _ _
   | exact LeO.none _
   | refine LeO.ite ?_ ?_
   | refine LeO.bind ?_ (fun _ => ?_)
set_option maxHeartbeats 64000000 in
set_option maxRecDepth 100000 in
theorem laws_toStockActS.calls (k : Nat) (A0 : Option Addr) (c0 : Nat) (l0 : List (S57)) (r : List (S34)) (w : World) (hr0 : Kd.C k57 w A0 l0.length l0) (hc0 : l0.length ≤ c0) (h : laws_toStockActS.f k l0 = some r) :
  Calls Try.prog 12 #[.slice A0 l0.length c0] w fun e w' => ∃ v0_ : Value, e = .returned (v0_) ∧ Kd.R k34 34 w' w.heap.size (fun _ => True) v0_ r ∧ Below w.heap.size w w' := by
 have hu57 := Try.underlying57
 have hu34 := Try.underlying34
 obtain ⟨HR0, HC0, HB⟩ := zD3 hr0 hc0 (Below.refl w.heap.size w)
 clear hr0 hc0
 have H : (if 0 ≤ (l0.length : Int) then (if ((l0.length : Int) : Int).toNat ≤ 5864062014805 then (laws_toStockActS.l0 k l0 (List.replicate ((l0.length : Int) : Int).toNat z34) 0) else (none)) else (none)) = some r := h
 clear h
 by_cases c2 : 0 ≤ (l0.length : Int)
 rotate_left
 ·rw [if_neg c2] at H
  exact absurd H (by simp)

 rw [if_pos c2] at H
 have c2b0 := eq_true c2
 have c2b1 := decide_eq_true c2
 clear c2
 by_cases c3 : ((l0.length : Int) : Int).toNat ≤ 5864062014805
 rotate_left
 ·rw [if_neg c3] at H
  exact absurd H (by simp)
 rw [if_pos c3] at H
 have c3b0 := eq_true c3
 have c3b1 := decide_eq_true c3
 clear c3
 obtain ⟨y292, hy292⟩ : ∃ y_ : List (S34), y_ = (List.replicate ((l0.length : Int) : Int).toNat z34) := ⟨_, rfl⟩
 replace H : (laws_toStockActS.l0 k l0 y292 0) = some r := by first | (rw [hy292]; with_reducible exact H) | (have H2_ := (Option.bind_some _ _).symm.trans H; rw [hy292]; with_reducible exact H2_) | (have H2_ := (Option.bind_some _ _).symm.trans H; with_reducible exact H2_) | with_reducible exact H | (rw [hy292]; exact H) | exact H
 have Ny292 := za hy292
 clear hy292
 have H' := za H
 clear H
 go_enter Try.func12, Try.ntmps12
 go_wp2_with (first | ((with_reducible refine gate_dst (N := 7) rfl ?_); refine Kd.R_make k34 _ 34 rfl (N := 7) rfl 23 _ _ rfl (l0.length : Int) rfl rfl Try.underlying23 (.agg #[(.int .i64 0), (.string ⟨#[]⟩), (.int .i64 0), (.int .i64 0), (.int .i64 0)]) 48 info34 rfl zG84 (by omega) z34 (ok := fun _ => True) (okp := fun _ => True) (k34_mkM _ _ _ z34 ) (fun _ hk => hk) trivial zO (Nat.le_trans (Nat.mul_le_mul_right _ (zO : (l0.length : Int).toNat ≤ 5864062014805)) (by omega)) (Below.refl _ _) (Nat.le_refl _) ?_; intro v293 w4 ho5 hb hg_ hnew_; clear hg_ hnew_; (first | rw [← Ny292.out] at ho5 | (simp only [Int.reduceToNat] at ho5; rw [← Ny292.out] at ho5)); have n_ := zA_ (za (zai ho5 (zp zG60))) (za (zr zG60 hb)); clear HB; obtain ⟨HO294, HB⟩ := n_; clear hb ho5))
 go_loopg [4] k (fun kq v4 w' => ∃ (x3_1 : List (S34)) (x4_1 : Int), v4 = .int .i64 x4_1 ∧ Aside0 (laws_toStockActS.l0 kq l0 x3_1 x4_1 = some r) ∧ Aside0 (kq ≤ k) ∧ Aside0 (Kd.R k34 34 w' w.heap.size (fun _ => True) v293 x3_1) ∧ Aside0 (Below w.heap.size w w'))
 case atStart => exact ⟨(y292), (0), zG82, H', ⟨Nat.le_refl _⟩, ⟨by (with_reducible repeat (first | apply zk | apply zl | apply zn)); exact HO294.out⟩, ⟨zH60⟩⟩
 case round =>
  clear H'
  try clear c2
  try clear c2b0
  try clear c2b1
  try clear c3
  try clear c3b0
  try clear c3b1
  obtain ⟨x3_1, x4_1, rfl, HA, HK1, HO_3, HB⟩ := hrel
  cases gk with
  | zero => exact absurd HA.out (by simp [laws_toStockActS.l0])
  | succ k1 =>
   have H := HA.out
   clear HA
   simp only [laws_toStockActS.l0] at H
   by_cases c6 : x4_1 < (l0.length : Int)
   rotate_left
   ·rw [if_neg c6] at H
    have c6b0 := decide_eq_false c6
    clear c6
    obtain rfl := Option.some.inj H
    go_wp2
    go_ret
    exact ⟨_, zH68, by (with_reducible repeat (first | apply zk | apply zl | apply zn)); exact HO_3.out, zH60⟩
   rw [if_pos c6] at H
   have c6b0 := decide_eq_true c6
   clear c6
   by_cases c7 : 0 ≤ x4_1
   rotate_left
   ·rw [if_neg c7] at H
    exact absurd H (by simp)
   rw [if_pos c7] at H
   have c7b0 := decide_eq_true c7
   clear c7
   replace H := Option.bind_eq_some_iff.mp H
   obtain ⟨⟨t296, t297, t298, t299, t300⟩, A80, H⟩ := H
   replace H : (if x4_1 < (x3_1.length : Int) then (laws_toStockActS.l0 k1 l0 (x3_1.set (x4_1 : Int).toNat (⟨t296, t297, t298, t299, t300⟩ : S34)) (wrap64 (x4_1 + 1))) else (none)) = some r := H
   have A8 := za A80
   clear A80
   by_cases c9 : x4_1 < (x3_1.length : Int)
   rotate_left
   ·rw [if_neg c9] at H
    exact absurd H (by simp)
   rw [if_pos c9] at H
   have c9b0 := decide_eq_true c9
   clear c9
   obtain ⟨y301, hy301⟩ : ∃ y_ : List (S34), y_ = (x3_1.set (x4_1 : Int).toNat (⟨t296, t297, t298, t299, t300⟩ : S34)) := ⟨_, rfl⟩
   replace H : (laws_toStockActS.l0 k1 l0 y301 (wrap64 (x4_1 + 1))) = some r := by first | (rw [hy301]; with_reducible exact H) | (have H2_ := (Option.bind_some _ _).symm.trans H; rw [hy301]; with_reducible exact H2_) | (have H2_ := (Option.bind_some _ _).symm.trans H; with_reducible exact H2_) | with_reducible exact H | (rw [hy301]; exact H) | exact H
   have Ny301 := za hy301
   clear hy301
   have H' := za H
   clear H
   have p295 : 0 ≤ (x4_1 : Int) := zO
   have q295 : x4_1 < (l0.length : Int) := zO
   obtain ⟨ad295, e295, hx295_0, hx295_1, hx295_2, hx295_3, hx295_4⟩ := at_T57 HR0.out x4_1 p295 q295
   cases e295
   replace hx295_0 := (HB.out.cell (zb w _ hx295_0)).trans hx295_0
   replace hx295_1 := (HB.out.cell (zb w _ hx295_1)).trans hx295_1
   replace hx295_2 := (HB.out.cell (zb w _ hx295_2)).trans hx295_2
   replace hx295_3 := (HB.out.cell (zb w _ hx295_3)).trans hx295_3
   replace hx295_4 := (HB.out.cell (zb w _ hx295_4)).trans hx295_4
   replace p295 := eq_true p295
   replace q295 := eq_true q295
   go_wp2_with (first | ((with_reducible refine gate_callee (f := 27) rfl ?_); refine goesL_ (some 20) rfl rfl Try.func27 zG83 rfl #[.agg (za5 ((rd_T57 l0 x4_1).f0) ((rd_T57 l0 x4_1).f1) ((rd_T57 l0 x4_1).f2) ((rd_T57 l0 x4_1).f3) ((rd_T57 l0 x4_1).f4))] rfl zG54 ?_; (with_reducible refine (laws_toStockAct.calls ((rd_T57 l0 x4_1).f0) ((rd_T57 l0 x4_1).f1) ((rd_T57 l0 x4_1).f2) ((rd_T57 l0 x4_1).f3) ((rd_T57 l0 x4_1).f4) t296 t297 t298 t299 t300 _ A8.out).mono ?_); rintro e w11 ⟨rfl, hb⟩; refine ⟨_, rfl, ?_⟩; have n_ := zA_ (za (zo (by (with_reducible repeat (first | apply zk | apply zl | apply zn)); exact HO_3.out) hb)) (za (zr zG60 hb)); clear HO_3 HB; obtain ⟨HO_3, HB⟩ := n_; (try clear hb); (try clear hk); have p10 : 0 ≤ (x4_1 : Int) := zO; have q10 : (x4_1 : Int) < ((x3_1.length : Int) : Int) := zO; obtain ⟨go10, co10, eo10, gb10, gl10, cl10, HG10⟩ := zam HO_3.out (by omega); (first | cases eo10 | (injection eo10 with ea_ en_ ec_; (first | subst ea_ | (injection ea_ with ea_; subst ea_)); subst ec_; clear en_)); have GB10 := za gb10; have GG10 := za HG10; clear gb10 gl10 HG10; obtain ⟨ce10, hcl10, hM10, hcc10, hfr10⟩ := zag HO_3.out z34 (x4_1 : Int) p10 q10; obtain rfl := k34_openM hM10; have hx10_0 : w11.cell? ⟨go10, (x4_1 : Int).toNat * 5, none⟩ = some (.int .i64 ((rd_T34 x3_1 x4_1).f0)) := hcc10 0 _ rfl; have hx10_1 : w11.cell? ⟨go10, (x4_1 : Int).toNat * 5 + 1, none⟩ = some (.string ((rd_T34 x3_1 x4_1).f1)) := hcc10 1 _ rfl; have hx10_2 : w11.cell? ⟨go10, (x4_1 : Int).toNat * 5 + 2, none⟩ = some (.int .i64 ((rd_T34 x3_1 x4_1).f2)) := hcc10 2 _ rfl; have hx10_3 : w11.cell? ⟨go10, (x4_1 : Int).toNat * 5 + 3, none⟩ = some (.int .i64 ((rd_T34 x3_1 x4_1).f3)) := hcc10 3 _ rfl; have hx10_4 : w11.cell? ⟨go10, (x4_1 : Int).toNat * 5 + 4, none⟩ = some (.int .i64 ((rd_T34 x3_1 x4_1).f4)) := hcc10 4 _ rfl; have hf10_0 : w11.frozen? ⟨go10, (x4_1 : Int).toNat * 5, none⟩ = false := hfr10 0; have hf10_1 : w11.frozen? ⟨go10, (x4_1 : Int).toNat * 5 + 1, none⟩ = false := hfr10 1; have hf10_2 : w11.frozen? ⟨go10, (x4_1 : Int).toNat * 5 + 2, none⟩ = false := hfr10 2; have hf10_3 : w11.frozen? ⟨go10, (x4_1 : Int).toNat * 5 + 3, none⟩ = false := hfr10 3; have hf10_4 : w11.frozen? ⟨go10, (x4_1 : Int).toNat * 5 + 4, none⟩ = false := hfr10 4; clear hcl10 hcc10 hfr10 hM10; replace p10 := eq_true p10; replace q10 := eq_true q10; have HX12 := za (show Kd.R k34 34 w11 w.heap.size (fun _ => True) (.slice (some ⟨go10, 0, none⟩) x3_1.length co10) x3_1 from (by (with_reducible repeat (first | apply zk | apply zl | apply zn)); exact HO_3.out)); obtain ⟨ce12, hcl12, hM12, hcc12, hfr12⟩ := zag HX12.out z34 (x4_1 : Int) zO (by have h_ : (x4_1 : Int) < ((x3_1.length : Int) : Int) := zO; first | exact h_ | (have e_ := (Kd.R_reads' HO_3.out).1; omega) | simpa using h_); obtain rfl := k34_openM hM12; have HP12 := zal HX12.out (x4_1 : Int) zO (by have h_ : (x4_1 : Int) < ((x3_1.length : Int) : Int) := zO; first | exact h_ | (have e_ := (Kd.R_reads' HO_3.out).1; omega) | simpa using h_) (seg := [.int .i64 t296, .string t297, .int .i64 t298, .int .i64 t299, .int .i64 t300]) (j := 0) hcl12 hcc12 (show 5 ≤ 5 from by decide) (x' := (⟨t296, t297, t298, t299, t300⟩ : S34)) (k34_mkM _ _ _ (⟨t296, t297, t298, t299, t300⟩ : S34) ) (fun _ hk => hk); have hx12_0 := hcc12 0 _ rfl; (try simp only [show (k34).sz = 5 from rfl, Nat.mul_one, Nat.add_zero] at hx12_0); have hf12_0 := hfr12 0; (try simp only [show (k34).sz = 5 from rfl, Nat.mul_one, Nat.add_zero] at hf12_0); have hx12_1 := hcc12 1 _ rfl; (try simp only [show (k34).sz = 5 from rfl, Nat.mul_one, Nat.add_zero] at hx12_1); have hf12_1 := hfr12 1; (try simp only [show (k34).sz = 5 from rfl, Nat.mul_one, Nat.add_zero] at hf12_1); have hx12_2 := hcc12 2 _ rfl; (try simp only [show (k34).sz = 5 from rfl, Nat.mul_one, Nat.add_zero] at hx12_2); have hf12_2 := hfr12 2; (try simp only [show (k34).sz = 5 from rfl, Nat.mul_one, Nat.add_zero] at hf12_2); have hx12_3 := hcc12 3 _ rfl; (try simp only [show (k34).sz = 5 from rfl, Nat.mul_one, Nat.add_zero] at hx12_3); have hf12_3 := hfr12 3; (try simp only [show (k34).sz = 5 from rfl, Nat.mul_one, Nat.add_zero] at hf12_3); have hx12_4 := hcc12 4 _ rfl; (try simp only [show (k34).sz = 5 from rfl, Nat.mul_one, Nat.add_zero] at hx12_4); have hf12_4 := hfr12 4; (try simp only [show (k34).sz = 5 from rfl, Nat.mul_one, Nat.add_zero] at hf12_4); clear hcl12 hcc12 hfr12 hM12) | ((with_reducible refine gate_store (t := 34) (p := 21) rfl ?_); refine store_event (t := 34) (p := 21) (v := ?vo_w13) (w1 := (((((w11.setCell ⟨go10, (x4_1 : Int).toNat * 5, none⟩ (.int .i64 t296)).setCell ⟨go10, (x4_1 : Int).toNat * 5 + 1, none⟩ (.string t297)).setCell ⟨go10, (x4_1 : Int).toNat * 5 + 2, none⟩ (.int .i64 t298)).setCell ⟨go10, (x4_1 : Int).toNat * 5 + 3, none⟩ (.int .i64 t299)).setCell ⟨go10, (x4_1 : Int).toNat * 5 + 4, none⟩ (.int .i64 t300))) ?hg ?ho ?hn ?hr ?_; (case ho => rfl); (case hg => rfl); (case hn => rfl); (case hr => exact zH83); intro w13 hw; have hg : w11.grownBy w13 (some go10) := (by rw [hw]; exact HP12.2); have hp_ : Kd.R k34 34 w13 w.heap.size (fun _ => True) (.slice (some ⟨go10, 0, none⟩) x3_1.length co10) y301 := (by rw [hw, Ny301.out]; exact HP12.1); clear HP12; have n_ := zA_ (za (hp_)) (za ((by rw [hw]; exact zj (zj (zj (zj (zj (HB.out) GB10.out) GB10.out) GB10.out) GB10.out) GB10.out : Below w.heap.size w w13))); clear HO_3 HB; obtain ⟨HO_3, HB⟩ := n_; clear hg hw hp_))
   go_roundg k1
   case measure => have := HK1.out; omega
   case rel => exact ⟨(y301), (wrap64 (x4_1 + 1)), zG82, H', ⟨zH88⟩, ⟨by (with_reducible repeat (first | apply zk | apply zl | apply zn)); exact HO_3.out⟩, ⟨zH60⟩⟩
/-! ### laws_eqStockObs: function 28 -/
def laws_eqStockObs.f (a0_0 : Int) (a0_1 : Int) (a1_0 : Int) (a1_1 : Int) : Option (Bool) := if a0_0 = a1_0 then (if a0_1 = a1_1 then (some true) else (some false)) else (some false)
set_option maxHeartbeats 64000000 in
set_option maxRecDepth 100000 in
theorem laws_eqStockObs.calls (a0_0 : Int) (a0_1 : Int) (a1_0 : Int) (a1_1 : Int) (r : Bool) (w : World) (h : laws_eqStockObs.f a0_0 a0_1 a1_0 a1_1 = some r) :
  Calls Try.prog 28 #[.agg (zo2 a0_0 a0_1), .agg (zo2 a1_0 a1_1)] w fun e w' => e = .returned (.bool r) ∧ Below w.heap.size w w' := by
 have hu36 := Try.underlying36
 have HB := za (Below.refl w.heap.size w)
 have H : (if a0_0 = a1_0 then (if a0_1 = a1_1 then (some true) else (some false)) else (some false)) = some r := h
 clear h
 by_cases c3 : a0_0 = a1_0
 rotate_left
 ·rw [if_neg c3] at H
  have c3b0 : (a0_0 == a1_0) = false := beq_eq_false_iff_ne.mpr c3
  have c3b1 : (a0_0 != a1_0) = true := bne_iff_ne.mpr c3
  obtain rfl := Option.some.inj H
  go_enter Try.func28, Try.ntmps28
  go_wp2_with (first | ((with_reducible refine gate_dst (N := 2) rfl ?_); refine box_event ?hg (N := 2) ?hd (cs := (zo2 a0_0 a0_1)) (t := 36) ?hr ?_; (case hd => rfl); (case hg => rfl); (case hr => exact zH83); intro gb302 hg w15 hbox hb; have n_ := zA_ (za (zr zG60 hb)) (zA_ (za (hbox)) (zA_ (zN1 w.heap.size hg (zp zG60)) (zN1 w.heap.size hg (zp zG60)))); clear HB; obtain ⟨HB, BK302, GW302, GE302⟩ := n_; clear hb hbox hg) | ((with_reducible refine gate_dst (N := 3) rfl ?_); refine box_event ?hg (N := 3) ?hd (cs := (zo2 a1_0 a1_1)) (t := 36) ?hr ?_; (case hd => rfl); (case hg => rfl); (case hr => exact zH83); intro gb303 hg w16 hbox hb; have n_ := zA_ (za (zq (g := gb302) (o := .cells (zo2 a0_0 a0_1) 36 (0, 0)) zK157 hb)) (zA_ (za (zr zK147 hb)) (zA_ (za (hbox)) (zA_ (zN1 w.heap.size hg (zp zK147)) (zA_ (zN1 w.heap.size hg (zp zK147)) (zN2 hg (zv (g := gb302) (o := .cells (zo2 a0_0 a0_1) 36 (0, 0)) zK157)))))); clear BK302 HB; obtain ⟨BK302, HB, BK303, GW303, GE303, NB302_303, NB303_302⟩ := n_; clear hb hbox hg; have hnb17 := NB302_303.out; have hnc17 := NB303_302.out; have hcz18_0 : w16.cell? ⟨gb302, 0, none⟩ = some (.int .i64 a0_0) := (q14a BK302.out 0).trans rfl; have hcz18_1 : w16.cell? ⟨gb302, 1, none⟩ = some (.int .i64 a0_1) := (q14a BK302.out 1).trans rfl; have hfz18_0 := zc BK302.out 0; have hfz18_1 := zc BK302.out 1; have hcz19_0 : w16.cell? ⟨gb303, 0, none⟩ = some (.int .i64 a1_0) := (q14a BK303.out 0).trans rfl; have hcz19_1 : w16.cell? ⟨gb303, 1, none⟩ = some (.int .i64 a1_1) := (q14a BK303.out 1).trans rfl; have hfz19_0 := zc BK303.out 0; have hfz19_1 := zc BK303.out 1))
  go_ret
  exact zH6

 rw [if_pos c3] at H
 have c3b0 : (a0_0 == a1_0) = true := beq_iff_eq.mpr c3
 have c3b1 : (a0_0 != a1_0) = false := bne_eq_false_iff_eq.mpr c3
 clear c3
 by_cases c4 : a0_1 = a1_1
 rotate_left
 ·rw [if_neg c4] at H
  have c4b0 : (a0_1 == a1_1) = false := beq_eq_false_iff_ne.mpr c4
  have c4b1 : (a0_1 != a1_1) = true := bne_iff_ne.mpr c4
  obtain rfl := Option.some.inj H
  go_enter Try.func28, Try.ntmps28
  go_wp2_with (first | ((with_reducible refine gate_dst (N := 2) rfl ?_); refine box_event ?hg (N := 2) ?hd (cs := (zo2 a0_0 a0_1)) (t := 36) ?hr ?_; (case hd => rfl); (case hg => rfl); (case hr => exact zH83); intro gb302 hg w10 hbox hb; have n_ := zA_ (za (zr zG60 hb)) (zA_ (za (hbox)) (zA_ (zN1 w.heap.size hg (zp zG60)) (zN1 w.heap.size hg (zp zG60)))); clear HB; obtain ⟨HB, BK302, GW302, GE302⟩ := n_; clear hb hbox hg) | ((with_reducible refine gate_dst (N := 3) rfl ?_); refine box_event ?hg (N := 3) ?hd (cs := (zo2 a1_0 a1_1)) (t := 36) ?hr ?_; (case hd => rfl); (case hg => rfl); (case hr => exact zH83); intro gb303 hg w11 hbox hb; have n_ := zA_ (za (zq (g := gb302) (o := .cells (zo2 a0_0 a0_1) 36 (0, 0)) zK157 hb)) (zA_ (za (zr zK147 hb)) (zA_ (za (hbox)) (zA_ (zN1 w.heap.size hg (zp zK147)) (zA_ (zN1 w.heap.size hg (zp zK147)) (zN2 hg (zv (g := gb302) (o := .cells (zo2 a0_0 a0_1) 36 (0, 0)) zK157)))))); clear BK302 HB; obtain ⟨BK302, HB, BK303, GW303, GE303, NB302_303, NB303_302⟩ := n_; clear hb hbox hg; have hnb12 := NB302_303.out; have hnc12 := NB303_302.out; have hcz13_0 : w11.cell? ⟨gb302, 0, none⟩ = some (.int .i64 a0_0) := (q14a BK302.out 0).trans rfl; have hcz13_1 : w11.cell? ⟨gb302, 1, none⟩ = some (.int .i64 a0_1) := (q14a BK302.out 1).trans rfl; have hfz13_0 := zc BK302.out 0; have hfz13_1 := zc BK302.out 1; have hcz14_0 : w11.cell? ⟨gb303, 0, none⟩ = some (.int .i64 a1_0) := (q14a BK303.out 0).trans rfl; have hcz14_1 : w11.cell? ⟨gb303, 1, none⟩ = some (.int .i64 a1_1) := (q14a BK303.out 1).trans rfl; have hfz14_0 := zc BK303.out 0; have hfz14_1 := zc BK303.out 1))
  go_ret
  exact zH6
 rw [if_pos c4] at H
 have c4b0 : (a0_1 == a1_1) = true := beq_iff_eq.mpr c4
 have c4b1 : (a0_1 != a1_1) = false := bne_eq_false_iff_eq.mpr c4
 clear c4
 obtain rfl := Option.some.inj H
 go_enter Try.func28, Try.ntmps28
 go_wp2_with (first | ((with_reducible refine gate_dst (N := 2) rfl ?_); refine box_event ?hg (N := 2) ?hd (cs := (zo2 a0_0 a0_1)) (t := 36) ?hr ?_; (case hd => rfl); (case hg => rfl); (case hr => exact zH83); intro gb302 hg w5 hbox hb; have n_ := zA_ (za (zr zG60 hb)) (zA_ (za (hbox)) (zA_ (zN1 w.heap.size hg (zp zG60)) (zN1 w.heap.size hg (zp zG60)))); clear HB; obtain ⟨HB, BK302, GW302, GE302⟩ := n_; clear hb hbox hg) | ((with_reducible refine gate_dst (N := 3) rfl ?_); refine box_event ?hg (N := 3) ?hd (cs := (zo2 a1_0 a1_1)) (t := 36) ?hr ?_; (case hd => rfl); (case hg => rfl); (case hr => exact zH83); intro gb303 hg w6 hbox hb; have n_ := zA_ (za (zq (g := gb302) (o := .cells (zo2 a0_0 a0_1) 36 (0, 0)) zK157 hb)) (zA_ (za (zr zK147 hb)) (zA_ (za (hbox)) (zA_ (zN1 w.heap.size hg (zp zK147)) (zA_ (zN1 w.heap.size hg (zp zK147)) (zN2 hg (zv (g := gb302) (o := .cells (zo2 a0_0 a0_1) 36 (0, 0)) zK157)))))); clear BK302 HB; obtain ⟨BK302, HB, BK303, GW303, GE303, NB302_303, NB303_302⟩ := n_; clear hb hbox hg; have hnb7 := NB302_303.out; have hnc7 := NB303_302.out; have hcz8_0 : w6.cell? ⟨gb302, 0, none⟩ = some (.int .i64 a0_0) := (q14a BK302.out 0).trans rfl; have hcz8_1 : w6.cell? ⟨gb302, 1, none⟩ = some (.int .i64 a0_1) := (q14a BK302.out 1).trans rfl; have hfz8_0 := zc BK302.out 0; have hfz8_1 := zc BK302.out 1; have hcz9_0 : w6.cell? ⟨gb303, 0, none⟩ = some (.int .i64 a1_0) := (q14a BK303.out 0).trans rfl; have hcz9_1 : w6.cell? ⟨gb303, 1, none⟩ = some (.int .i64 a1_1) := (q14a BK303.out 1).trans rfl; have hfz9_0 := zc BK303.out 0; have hfz9_1 := zc BK303.out 1))
 go_ret
 exact zH6
/-! ### laws_eqStockObsS: function 13 -/
def laws_eqStockObsS.l0 : Nat → List (S36) → List (S36) → Int → Option (Bool)
 | 0, _, _, _ => none
 | k + 1, x0, x1, x5 => if x5 < (x0.length : Int) then (if 0 ≤ x5 then (if x5 < (x1.length : Int) then ((laws_eqStockObs.f ((rd_T36 x0 x5).f0) ((rd_T36 x0 x5).f1) ((rd_T36 x1 x5).f0) ((rd_T36 x1 x5).f1)).bind fun t306 => (if t306 = true then (laws_eqStockObsS.l0 k x0 x1 (wrap64 (x5 + 1))) else (some false))) else (none)) else (none)) else (some true)
def laws_eqStockObsS.f (k : Nat) (l0 : List (S36)) (l1 : List (S36)) : Option (Bool) := if (l0.length : Int) = (l1.length : Int) then (laws_eqStockObsS.l0 k l0 l1 0) else (some false)
theorem laws_eqStockObsS.mono_l : ∀ k, (∀ y0 y1 y2, LeO (laws_eqStockObsS.l0 k y0 y1 y2) (laws_eqStockObsS.l0 (k + 1) y0 y1 y2))
 | 0 => fun _ _ _ r h => by simp [laws_eqStockObsS.l0] at h
 | k + 1 => by
  have ih0 := laws_eqStockObsS.mono_l k
  ·intro y0 y1 y2
   unfold laws_eqStockObsS.l0
   repeat' first
   | (with_reducible exact ih0 _ _ _)
   | (with_reducible exact LeO.refl _)
   | (with_reducible exact LeO.none _)
   | (with_reducible refine LeO.ite ?_ ?_)
   | (with_reducible refine LeO.bind ?_ (fun _ => ?_))
   | exact ih0 _ _ _
   | exact LeO.none _
   | refine LeO.ite ?_ ?_
   | refine LeO.bind ?_ (fun _ => ?_)
theorem laws_eqStockObsS.mono : ∀ a0 a1 k, LeO (laws_eqStockObsS.f k a0 a1) (laws_eqStockObsS.f (k + 1) a0 a1) := by
 intro a0 a1 k
 have ih0 := laws_eqStockObsS.mono_l k
 unfold laws_eqStockObsS.f
 repeat' first
   | (with_reducible exact ih0 _ _ _)
   | (with_reducible exact LeO.refl _)
   | (with_reducible exact LeO.none _)
   | (with_reducible refine LeO.ite ?_ ?_)
   | (with_reducible refine LeO.bind ?_ (fun _ => ?_))
   | exact ih0 _ _ _
   | exact LeO.none _
   | refine LeO.ite ?_ ?_
   | refine LeO.bind ?_ (fun _ => ?_)
def laws_eqStockObsS.T6 : Bool × List (List Nat × List Nat) := (true, [([], []), ([], []), ([0, 1], [0, 1]), ([2], [2]), ([], []), ([], []), ([4, 5], [4, 5]), ([6], [6]), ([3, 7], [3, 7]), ([8], [8])])
def laws_eqStockObsS.B6 : List Nat := [0, 0, 3, 7, 0, 0, 48, 112, 255, 511]
theorem laws_eqStockObsS.tab6 : rtab .any (opsOf Try.f13 6) = laws_eqStockObsS.T6 := by kernel_rfl
theorem laws_eqStockObsS.bits6 : waitsOk laws_eqStockObsS.T6.2 laws_eqStockObsS.B6 = true := by kernel_rfl
set_option maxHeartbeats 64000000 in
set_option maxRecDepth 100000 in
theorem laws_eqStockObsS.calls (k : Nat) (A0 : Option Addr) (c0 : Nat) (l0 : List (S36)) (A1 : Option Addr) (c1 : Nat) (l1 : List (S36)) (r : Bool) (w : World) (hr0 : Kd.C k36 w A0 l0.length l0) (hc0 : l0.length ≤ c0) (hr1 : Kd.C k36 w A1 l1.length l1) (hc1 : l1.length ≤ c1) (h : laws_eqStockObsS.f k l0 l1 = some r) :
  Calls Try.prog 13 #[.slice A0 l0.length c0, .slice A1 l1.length c1] w fun e w' => e = .returned (.bool r) ∧ Below w.heap.size w w' := by
 have hu36 := Try.underlying36
 obtain ⟨HR0, HC0, HR1, HC1, HB⟩ := zD5 hr0 hc0 hr1 hc1 (Below.refl w.heap.size w)
 clear hr0 hc0 hr1 hc1
 have H : (if (l0.length : Int) = (l1.length : Int) then (laws_eqStockObsS.l0 k l0 l1 0) else (some false)) = some r := h
 clear h
 by_cases c3 : (l0.length : Int) = (l1.length : Int)
 rotate_left
 ·rw [if_neg c3] at H
  have c3b0 : ((l0.length : Int) == (l1.length : Int)) = false := beq_eq_false_iff_ne.mpr c3
  have c3b1 : ((l0.length : Int) != (l1.length : Int)) = true := bne_iff_ne.mpr c3
  have c3b2 : (l0.length == l1.length) = false := by first | simpa using c3 | (simp at c3 ⊢; omega)
  obtain rfl := Option.some.inj H
  go_enter Try.func13, Try.ntmps13
  go_wp2
  go_ret
  exact zH14

 rw [if_pos c3] at H
 have c3b0 : ((l0.length : Int) == (l1.length : Int)) = true := beq_iff_eq.mpr c3
 have c3b1 : ((l0.length : Int) != (l1.length : Int)) = false := bne_eq_false_iff_eq.mpr c3
 have c3b2 : (l0.length == l1.length) = true := by first | simpa using c3 | (simp at c3 ⊢; omega)
 clear c3
 have H' := za H
 clear H
 go_enter Try.func13, Try.ntmps13
 go_wp2
 go_loopg [5] k (fun kq v5 w' => ∃ (x5_1 : Int), v5 = .int .i64 x5_1 ∧ Aside0 (laws_eqStockObsS.l0 kq l0 l1 x5_1 = some r) ∧ Aside0 (kq ≤ k) ∧ Aside0 (Below w.heap.size w w'))
 case atStart => exact ⟨(0), zG82, H', ⟨Nat.le_refl _⟩, ⟨zH60⟩⟩
 case round =>
  clear H'
  try clear c1
  try clear c3
  try clear c3b0
  try clear c3b1
  try clear c3b2
  obtain ⟨x5_1, rfl, HA, HK1, HB⟩ := hrel
  cases gk with
  | zero => exact absurd HA.out (by simp [laws_eqStockObsS.l0])
  | succ k1 =>
   have H := HA.out
   clear HA
   simp only [laws_eqStockObsS.l0] at H
   by_cases c4 : x5_1 < (l0.length : Int)
   rotate_left
   ·rw [if_neg c4] at H
    have c4b0 := decide_eq_false c4
    clear c4
    obtain rfl := Option.some.inj H
    go_wp2
    go_ret
    exact zH14
   rw [if_pos c4] at H
   have c4b0 := decide_eq_true c4
   clear c4
   by_cases c5 : 0 ≤ x5_1
   rotate_left
   ·rw [if_neg c5] at H
    exact absurd H (by simp)
   rw [if_pos c5] at H
   have c5b0 := decide_eq_true c5
   clear c5
   by_cases c6 : x5_1 < (l1.length : Int)
   rotate_left
   ·rw [if_neg c6] at H
    exact absurd H (by simp)
   rw [if_pos c6] at H
   have c6b0 := decide_eq_true c6
   clear c6
   replace H := Option.bind_eq_some_iff.mp H
   obtain ⟨t306, A70, H⟩ := H
   replace H : (if t306 = true then (laws_eqStockObsS.l0 k1 l0 l1 (wrap64 (x5_1 + 1))) else (some false)) = some r := H
   have A7 := za A70
   clear A70
   by_cases c8 : t306 = true
   rotate_left
   ·replace c8 := Bool.eq_false_iff.mpr c8
    subst c8
    have H1 : (some false) = some r := by rw [if_neg (show ¬ (false = true) by decide)] at H; exact H
    clear H
    have H := H1
    clear H1
    obtain rfl := Option.some.inj H
    try go_wp2
    have n0_ := za (zh HB.out)
    clear HB
    have HB := n0_
    clear n0_
    have p304 : 0 ≤ (x5_1 : Int) := zO
    have q304 : x5_1 < (l0.length : Int) := zO
    obtain ⟨ad304, e304, hx304_0, hx304_1⟩ := at_T36 HR0.out x5_1 p304 q304
    have hw304_1 := hx304_1
    have hw304_0 := hx304_0
    cases e304
    replace hx304_0 := (HB.out.cell (zb w _ hx304_0)).trans hx304_0
    replace hx304_1 := (HB.out.cell (zb w _ hx304_1)).trans hx304_1
    replace p304 := eq_true p304
    replace q304 := eq_true q304
    have p305 : 0 ≤ (x5_1 : Int) := zO
    have q305 : x5_1 < (l1.length : Int) := zO
    obtain ⟨ad305, e305, hx305_0, hx305_1⟩ := at_T36 HR1.out x5_1 p305 q305
    have hw305_1 := hx305_1
    have hw305_0 := hx305_0
    cases e305
    replace hx305_0 := (HB.out.cell (zb w _ hx305_0)).trans hx305_0
    replace hx305_1 := (HB.out.cell (zb w _ hx305_1)).trans hx305_1
    replace p305 := eq_true p305
    replace q305 := eq_true q305
    refine start_ (n := 10) (S := fun w' => w'.cell? (ad304.add ((x5_1).toNat * 2)) = some (.int .i64 ((rd_T36 l0 x5_1).f0)) ∧ w'.cell? ⟨(ad304.add ((x5_1).toNat * 2)).block, (ad304.add ((x5_1).toNat * 2)).off + 1, none⟩ = some (.int .i64 ((rd_T36 l0 x5_1).f1)) ∧ w'.cell? (ad305.add ((x5_1).toNat * 2)) = some (.int .i64 ((rd_T36 l1 x5_1).f0)) ∧ w'.cell? ⟨(ad305.add ((x5_1).toNat * 2)).block, (ad305.add ((x5_1).toNat * 2)).off + 1, none⟩ = some (.int .i64 ((rd_T36 l1 x5_1).f1))) (ds := []) b14A0 zG83 rfl rfl ⟨((HB.out.cell (zb w _ hw304_0)).trans hw304_0), ((HB.out.cell (zb w _ hw304_1)).trans hw304_1), ((HB.out.cell (zb w _ hw305_0)).trans hw305_0), ((HB.out.cell (zb w _ hw305_1)).trans hw305_1)⟩ (fun hHeld => ?_); refine with_tabW laws_eqStockObsS.tab6 laws_eqStockObsS.bits6 (fun HT_ HW_ => ?_)
    generalize wr.drew = w11 at HB hx304_0 hx304_1 hx305_0 hx305_1 hHeld ⊢
    refine zP 0 17 b14A1 HT_ ?_
    refine zP 1 18 b14A2 HT_ ?_
    refine zP 2 19 b14A3 HT_ ?_
    refine zP 4 21 b14A4 HT_ ?_
    refine zP 5 22 b14A5 HT_ ?_
    refine zP 6 23 b14A6 HT_ ?_
    refine zQ 3 20 b14A7 HT_ HW_ hHeld ?_
    refine zQ 7 24 b14A8 HT_ HW_ hHeld ?_
    refine one_ (i := 8) (N := some 25) b14A9 rfl rfl (one_of HT_.out zG83) zG84 (fun K hK => ?_)
    refine goes_ Try.func28 zG83 rfl #[.agg (zo2 ((rd_T36 l0 x5_1).f0) ((rd_T36 l0 x5_1).f1)), .agg (zo2 ((rd_T36 l1 x5_1).f0) ((rd_T36 l1 x5_1).f1))] (by rfl) rfl rfl zG54 ?_
    with_reducible refine (laws_eqStockObs.calls ((rd_T36 l0 x5_1).f0) ((rd_T36 l0 x5_1).f1) ((rd_T36 l1 x5_1).f0) ((rd_T36 l1 x5_1).f1) false _ A7.out).mono ?_
    rintro e w12 ⟨rfl, hb⟩
    refine ⟨_, rfl, ?_⟩
    have n0_ := za (zr zG60 hb)
    clear HB
    have HB := n0_
    clear n0_
    (try clear hb)
    (try clear hb2)
    (try clear hk)
    (try clear hi)
    refine hK.out _ _ ⟨((HB.out.cell (zb w _ hw304_0)).trans hw304_0), ((HB.out.cell (zb w _ hw304_1)).trans hw304_1), ((HB.out.cell (zb w _ hw305_0)).trans hw305_0), ((HB.out.cell (zb w _ hw305_1)).trans hw305_1)⟩ (fun hHeld => ?_)
    clear hK K
    refine norm_ (a' := ?_) ?_ ?_
    rotate_left
    ·show Act.put _ (some 25) _ = _
     simp only [Act.put, List.setIfInBounds_toArray, List.set_cons_zero, List.set_cons_succ, i64_w, i32_w]
     rfl
    refine zP 9 26 b14A10 HT_ ?_
    refine done_ (done_of HT_.out zG83) ?_
    try go_wp2
    go_ret
    exact zH14
   subst c8
   have H1 : (laws_eqStockObsS.l0 k1 l0 l1 (wrap64 (x5_1 + 1))) = some r := by rw [if_pos rfl] at H; exact H
   clear H
   have H := H1
   clear H1
   have H' := za H
   clear H
   try go_wp2
   have n0_ := za (zh HB.out)
   clear HB
   have HB := n0_
   clear n0_
   have p304 : 0 ≤ (x5_1 : Int) := zO
   have q304 : x5_1 < (l0.length : Int) := zO
   obtain ⟨ad304, e304, hx304_0, hx304_1⟩ := at_T36 HR0.out x5_1 p304 q304
   have hw304_1 := hx304_1
   have hw304_0 := hx304_0
   cases e304
   replace hx304_0 := (HB.out.cell (zb w _ hx304_0)).trans hx304_0
   replace hx304_1 := (HB.out.cell (zb w _ hx304_1)).trans hx304_1
   replace p304 := eq_true p304
   replace q304 := eq_true q304
   have p305 : 0 ≤ (x5_1 : Int) := zO
   have q305 : x5_1 < (l1.length : Int) := zO
   obtain ⟨ad305, e305, hx305_0, hx305_1⟩ := at_T36 HR1.out x5_1 p305 q305
   have hw305_1 := hx305_1
   have hw305_0 := hx305_0
   cases e305
   replace hx305_0 := (HB.out.cell (zb w _ hx305_0)).trans hx305_0
   replace hx305_1 := (HB.out.cell (zb w _ hx305_1)).trans hx305_1
   replace p305 := eq_true p305
   replace q305 := eq_true q305
   refine start_ (n := 10) (S := fun w' => w'.cell? (ad304.add ((x5_1).toNat * 2)) = some (.int .i64 ((rd_T36 l0 x5_1).f0)) ∧ w'.cell? ⟨(ad304.add ((x5_1).toNat * 2)).block, (ad304.add ((x5_1).toNat * 2)).off + 1, none⟩ = some (.int .i64 ((rd_T36 l0 x5_1).f1)) ∧ w'.cell? (ad305.add ((x5_1).toNat * 2)) = some (.int .i64 ((rd_T36 l1 x5_1).f0)) ∧ w'.cell? ⟨(ad305.add ((x5_1).toNat * 2)).block, (ad305.add ((x5_1).toNat * 2)).off + 1, none⟩ = some (.int .i64 ((rd_T36 l1 x5_1).f1))) (ds := []) b14A0 zG83 rfl rfl ⟨((HB.out.cell (zb w _ hw304_0)).trans hw304_0), ((HB.out.cell (zb w _ hw304_1)).trans hw304_1), ((HB.out.cell (zb w _ hw305_0)).trans hw305_0), ((HB.out.cell (zb w _ hw305_1)).trans hw305_1)⟩ (fun hHeld => ?_); refine with_tabW laws_eqStockObsS.tab6 laws_eqStockObsS.bits6 (fun HT_ HW_ => ?_)
   generalize wr.drew = w9 at HB hx304_0 hx304_1 hx305_0 hx305_1 hHeld ⊢
   refine zP 0 17 b14A1 HT_ ?_
   refine zP 1 18 b14A2 HT_ ?_
   refine zP 2 19 b14A3 HT_ ?_
   refine zP 4 21 b14A4 HT_ ?_
   refine zP 5 22 b14A5 HT_ ?_
   refine zP 6 23 b14A6 HT_ ?_
   refine zQ 3 20 b14A7 HT_ HW_ hHeld ?_
   refine zQ 7 24 b14A8 HT_ HW_ hHeld ?_
   refine one_ (i := 8) (N := some 25) b14A9 rfl rfl (one_of HT_.out zG83) zG84 (fun K hK => ?_)
   refine goes_ Try.func28 zG83 rfl #[.agg (zo2 ((rd_T36 l0 x5_1).f0) ((rd_T36 l0 x5_1).f1)), .agg (zo2 ((rd_T36 l1 x5_1).f0) ((rd_T36 l1 x5_1).f1))] (by rfl) rfl rfl zG54 ?_
   with_reducible refine (laws_eqStockObs.calls ((rd_T36 l0 x5_1).f0) ((rd_T36 l0 x5_1).f1) ((rd_T36 l1 x5_1).f0) ((rd_T36 l1 x5_1).f1) true _ A7.out).mono ?_
   rintro e w10 ⟨rfl, hb⟩
   refine ⟨_, rfl, ?_⟩
   have n0_ := za (zr zG60 hb)
   clear HB
   have HB := n0_
   clear n0_
   (try clear hb)
   (try clear hb2)
   (try clear hk)
   (try clear hi)
   refine hK.out _ _ ⟨((HB.out.cell (zb w _ hw304_0)).trans hw304_0), ((HB.out.cell (zb w _ hw304_1)).trans hw304_1), ((HB.out.cell (zb w _ hw305_0)).trans hw305_0), ((HB.out.cell (zb w _ hw305_1)).trans hw305_1)⟩ (fun hHeld => ?_)
   clear hK K
   refine norm_ (a' := ?_) ?_ ?_
   rotate_left
   ·show Act.put _ (some 25) _ = _
    simp only [Act.put, List.setIfInBounds_toArray, List.set_cons_zero, List.set_cons_succ, i64_w, i32_w]
    rfl
   refine zP 9 26 b14A10 HT_ ?_
   refine done_ (done_of HT_.out zG83) ?_
   try go_wp2
   go_roundg k1
   case measure => have := HK1.out; omega
   case rel => exact ⟨(wrap64 (x5_1 + 1)), zG82, H', ⟨zH88⟩, ⟨zH60⟩⟩
/-! ### laws_eqStockLot: function 47 -/
def laws_eqStockLot.f (a0_0 : ByteArray) (a0_1 : Int) (a0_2 : Int) (a0_3 : Int) (a0_4 : Bool) (a1_0 : ByteArray) (a1_1 : Int) (a1_2 : Int) (a1_3 : Int) (a1_4 : Bool) : Option (Bool) := if a0_0.toList = a1_0.toList then (if a0_1 = a1_1 then (if a0_2 = a1_2 then (if a0_3 = a1_3 then (if (a0_4 != a1_4) = true then (some false) else (some true)) else (some false)) else (some false)) else (some false)) else (some false)
set_option maxHeartbeats 64000000 in
set_option maxRecDepth 100000 in
theorem laws_eqStockLot.calls (a0_0 : ByteArray) (a0_1 : Int) (a0_2 : Int) (a0_3 : Int) (a0_4 : Bool) (a1_0 : ByteArray) (a1_1 : Int) (a1_2 : Int) (a1_3 : Int) (a1_4 : Bool) (r : Bool) (w : World) (h : laws_eqStockLot.f a0_0 a0_1 a0_2 a0_3 a0_4 a1_0 a1_1 a1_2 a1_3 a1_4 = some r) :
  Calls Try.prog 47 #[.agg (zl5 a0_0 a0_1 a0_2 a0_3 a0_4), .agg (zl5 a1_0 a1_1 a1_2 a1_3 a1_4)] w fun e w' => e = .returned (.bool r) ∧ Below w.heap.size w w' := by
 have hu38 := Try.underlying38
 have HB := za (Below.refl w.heap.size w)
 have H : (if a0_0.toList = a1_0.toList then (if a0_1 = a1_1 then (if a0_2 = a1_2 then (if a0_3 = a1_3 then (if (a0_4 != a1_4) = true then (some false) else (some true)) else (some false)) else (some false)) else (some false)) else (some false)) = some r := h
 clear h
 by_cases c3 : a0_0.toList = a1_0.toList
 rotate_left
 ·rw [if_neg c3] at H
  have c3b0 : (a0_0.toList == a1_0.toList) = false := beq_eq_false_iff_ne.mpr c3
  have c3b1 : (a0_0.toList != a1_0.toList) = true := bne_iff_ne.mpr c3
  obtain rfl := Option.some.inj H
  go_enter Try.func47, Try.ntmps47
  go_wp2_with (first | ((with_reducible refine gate_dst (N := 2) rfl ?_); refine box_event ?hg (N := 2) ?hd (cs := (zl5 a0_0 a0_1 a0_2 a0_3 a0_4)) (t := 38) ?hr ?_; (case hd => rfl); (case hg => rfl); (case hr => exact zH83); intro gb307 hg w33 hbox hb; have n_ := zA_ (za (zr zG60 hb)) (zA_ (za (hbox)) (zA_ (zN1 w.heap.size hg (zp zG60)) (zN1 w.heap.size hg (zp zG60)))); clear HB; obtain ⟨HB, BK307, GW307, GE307⟩ := n_; clear hb hbox hg) | ((with_reducible refine gate_dst (N := 3) rfl ?_); refine box_event ?hg (N := 3) ?hd (cs := (zl5 a1_0 a1_1 a1_2 a1_3 a1_4)) (t := 38) ?hr ?_; (case hd => rfl); (case hg => rfl); (case hr => exact zH83); intro gb308 hg w34 hbox hb; have n_ := zA_ (za (zq (g := gb307) (o := .cells (zl5 a0_0 a0_1 a0_2 a0_3 a0_4) 38 (0, 0)) zG61 hb)) (zA_ (za (zr zG55 hb)) (zA_ (za (hbox)) (zA_ (zN1 w.heap.size hg (zp zG55)) (zA_ (zN1 w.heap.size hg (zp zG55)) (zN2 hg (zv (g := gb307) (o := .cells (zl5 a0_0 a0_1 a0_2 a0_3 a0_4) 38 (0, 0)) zG61)))))); clear BK307 HB; obtain ⟨BK307, HB, BK308, GW308, GE308, NB307_308, NB308_307⟩ := n_; clear hb hbox hg; have hnb35 := NB307_308.out; have hnc35 := NB308_307.out; have hcz36_0 : w34.cell? ⟨gb307, 0, none⟩ = some (.string a0_0) := (q14a BK307.out 0).trans rfl; have hcz36_1 : w34.cell? ⟨gb307, 1, none⟩ = some (.int .i64 a0_1) := (q14a BK307.out 1).trans rfl; have hcz36_2 : w34.cell? ⟨gb307, 2, none⟩ = some (.int .i64 a0_2) := (q14a BK307.out 2).trans rfl; have hcz36_3 : w34.cell? ⟨gb307, 3, none⟩ = some (.int .i64 a0_3) := (q14a BK307.out 3).trans rfl; have hcz36_4 : w34.cell? ⟨gb307, 4, none⟩ = some (.bool a0_4) := (q14a BK307.out 4).trans rfl; have hfz36_0 := zc BK307.out 0; have hfz36_1 := zc BK307.out 1; have hfz36_2 := zc BK307.out 2; have hfz36_3 := zc BK307.out 3; have hfz36_4 := zc BK307.out 4; have hcz37_0 : w34.cell? ⟨gb308, 0, none⟩ = some (.string a1_0) := (q14a BK308.out 0).trans rfl; have hcz37_1 : w34.cell? ⟨gb308, 1, none⟩ = some (.int .i64 a1_1) := (q14a BK308.out 1).trans rfl; have hcz37_2 : w34.cell? ⟨gb308, 2, none⟩ = some (.int .i64 a1_2) := (q14a BK308.out 2).trans rfl; have hcz37_3 : w34.cell? ⟨gb308, 3, none⟩ = some (.int .i64 a1_3) := (q14a BK308.out 3).trans rfl; have hcz37_4 : w34.cell? ⟨gb308, 4, none⟩ = some (.bool a1_4) := (q14a BK308.out 4).trans rfl; have hfz37_0 := zc BK308.out 0; have hfz37_1 := zc BK308.out 1; have hfz37_2 := zc BK308.out 2; have hfz37_3 := zc BK308.out 3; have hfz37_4 := zc BK308.out 4))
  go_ret
  exact zH7

 rw [if_pos c3] at H
 have c3b0 : (a0_0.toList == a1_0.toList) = true := beq_iff_eq.mpr c3
 have c3b1 : (a0_0.toList != a1_0.toList) = false := bne_eq_false_iff_eq.mpr c3
 clear c3
 by_cases c4 : a0_1 = a1_1
 rotate_left
 ·rw [if_neg c4] at H
  have c4b0 : (a0_1 == a1_1) = false := beq_eq_false_iff_ne.mpr c4
  have c4b1 : (a0_1 != a1_1) = true := bne_iff_ne.mpr c4
  obtain rfl := Option.some.inj H
  go_enter Try.func47, Try.ntmps47
  go_wp2_with (first | ((with_reducible refine gate_dst (N := 2) rfl ?_); refine box_event ?hg (N := 2) ?hd (cs := (zl5 a0_0 a0_1 a0_2 a0_3 a0_4)) (t := 38) ?hr ?_; (case hd => rfl); (case hg => rfl); (case hr => exact zH83); intro gb307 hg w28 hbox hb; have n_ := zA_ (za (zr zG60 hb)) (zA_ (za (hbox)) (zA_ (zN1 w.heap.size hg (zp zG60)) (zN1 w.heap.size hg (zp zG60)))); clear HB; obtain ⟨HB, BK307, GW307, GE307⟩ := n_; clear hb hbox hg) | ((with_reducible refine gate_dst (N := 3) rfl ?_); refine box_event ?hg (N := 3) ?hd (cs := (zl5 a1_0 a1_1 a1_2 a1_3 a1_4)) (t := 38) ?hr ?_; (case hd => rfl); (case hg => rfl); (case hr => exact zH83); intro gb308 hg w29 hbox hb; have n_ := zA_ (za (zq (g := gb307) (o := .cells (zl5 a0_0 a0_1 a0_2 a0_3 a0_4) 38 (0, 0)) zG61 hb)) (zA_ (za (zr zG55 hb)) (zA_ (za (hbox)) (zA_ (zN1 w.heap.size hg (zp zG55)) (zA_ (zN1 w.heap.size hg (zp zG55)) (zN2 hg (zv (g := gb307) (o := .cells (zl5 a0_0 a0_1 a0_2 a0_3 a0_4) 38 (0, 0)) zG61)))))); clear BK307 HB; obtain ⟨BK307, HB, BK308, GW308, GE308, NB307_308, NB308_307⟩ := n_; clear hb hbox hg; have hnb30 := NB307_308.out; have hnc30 := NB308_307.out; have hcz31_0 : w29.cell? ⟨gb307, 0, none⟩ = some (.string a0_0) := (q14a BK307.out 0).trans rfl; have hcz31_1 : w29.cell? ⟨gb307, 1, none⟩ = some (.int .i64 a0_1) := (q14a BK307.out 1).trans rfl; have hcz31_2 : w29.cell? ⟨gb307, 2, none⟩ = some (.int .i64 a0_2) := (q14a BK307.out 2).trans rfl; have hcz31_3 : w29.cell? ⟨gb307, 3, none⟩ = some (.int .i64 a0_3) := (q14a BK307.out 3).trans rfl; have hcz31_4 : w29.cell? ⟨gb307, 4, none⟩ = some (.bool a0_4) := (q14a BK307.out 4).trans rfl; have hfz31_0 := zc BK307.out 0; have hfz31_1 := zc BK307.out 1; have hfz31_2 := zc BK307.out 2; have hfz31_3 := zc BK307.out 3; have hfz31_4 := zc BK307.out 4; have hcz32_0 : w29.cell? ⟨gb308, 0, none⟩ = some (.string a1_0) := (q14a BK308.out 0).trans rfl; have hcz32_1 : w29.cell? ⟨gb308, 1, none⟩ = some (.int .i64 a1_1) := (q14a BK308.out 1).trans rfl; have hcz32_2 : w29.cell? ⟨gb308, 2, none⟩ = some (.int .i64 a1_2) := (q14a BK308.out 2).trans rfl; have hcz32_3 : w29.cell? ⟨gb308, 3, none⟩ = some (.int .i64 a1_3) := (q14a BK308.out 3).trans rfl; have hcz32_4 : w29.cell? ⟨gb308, 4, none⟩ = some (.bool a1_4) := (q14a BK308.out 4).trans rfl; have hfz32_0 := zc BK308.out 0; have hfz32_1 := zc BK308.out 1; have hfz32_2 := zc BK308.out 2; have hfz32_3 := zc BK308.out 3; have hfz32_4 := zc BK308.out 4))
  go_ret
  exact zH7
 rw [if_pos c4] at H
 have c4b0 : (a0_1 == a1_1) = true := beq_iff_eq.mpr c4
 have c4b1 : (a0_1 != a1_1) = false := bne_eq_false_iff_eq.mpr c4
 clear c4
 by_cases c5 : a0_2 = a1_2
 rotate_left
 ·rw [if_neg c5] at H
  have c5b0 : (a0_2 == a1_2) = false := beq_eq_false_iff_ne.mpr c5
  have c5b1 : (a0_2 != a1_2) = true := bne_iff_ne.mpr c5
  obtain rfl := Option.some.inj H
  go_enter Try.func47, Try.ntmps47
  go_wp2_with (first | ((with_reducible refine gate_dst (N := 2) rfl ?_); refine box_event ?hg (N := 2) ?hd (cs := (zl5 a0_0 a0_1 a0_2 a0_3 a0_4)) (t := 38) ?hr ?_; (case hd => rfl); (case hg => rfl); (case hr => exact zH83); intro gb307 hg w23 hbox hb; have n_ := zA_ (za (zr zG60 hb)) (zA_ (za (hbox)) (zA_ (zN1 w.heap.size hg (zp zG60)) (zN1 w.heap.size hg (zp zG60)))); clear HB; obtain ⟨HB, BK307, GW307, GE307⟩ := n_; clear hb hbox hg) | ((with_reducible refine gate_dst (N := 3) rfl ?_); refine box_event ?hg (N := 3) ?hd (cs := (zl5 a1_0 a1_1 a1_2 a1_3 a1_4)) (t := 38) ?hr ?_; (case hd => rfl); (case hg => rfl); (case hr => exact zH83); intro gb308 hg w24 hbox hb; have n_ := zA_ (za (zq (g := gb307) (o := .cells (zl5 a0_0 a0_1 a0_2 a0_3 a0_4) 38 (0, 0)) zG61 hb)) (zA_ (za (zr zG55 hb)) (zA_ (za (hbox)) (zA_ (zN1 w.heap.size hg (zp zG55)) (zA_ (zN1 w.heap.size hg (zp zG55)) (zN2 hg (zv (g := gb307) (o := .cells (zl5 a0_0 a0_1 a0_2 a0_3 a0_4) 38 (0, 0)) zG61)))))); clear BK307 HB; obtain ⟨BK307, HB, BK308, GW308, GE308, NB307_308, NB308_307⟩ := n_; clear hb hbox hg; have hnb25 := NB307_308.out; have hnc25 := NB308_307.out; have hcz26_0 : w24.cell? ⟨gb307, 0, none⟩ = some (.string a0_0) := (q14a BK307.out 0).trans rfl; have hcz26_1 : w24.cell? ⟨gb307, 1, none⟩ = some (.int .i64 a0_1) := (q14a BK307.out 1).trans rfl; have hcz26_2 : w24.cell? ⟨gb307, 2, none⟩ = some (.int .i64 a0_2) := (q14a BK307.out 2).trans rfl; have hcz26_3 : w24.cell? ⟨gb307, 3, none⟩ = some (.int .i64 a0_3) := (q14a BK307.out 3).trans rfl; have hcz26_4 : w24.cell? ⟨gb307, 4, none⟩ = some (.bool a0_4) := (q14a BK307.out 4).trans rfl; have hfz26_0 := zc BK307.out 0; have hfz26_1 := zc BK307.out 1; have hfz26_2 := zc BK307.out 2; have hfz26_3 := zc BK307.out 3; have hfz26_4 := zc BK307.out 4; have hcz27_0 : w24.cell? ⟨gb308, 0, none⟩ = some (.string a1_0) := (q14a BK308.out 0).trans rfl; have hcz27_1 : w24.cell? ⟨gb308, 1, none⟩ = some (.int .i64 a1_1) := (q14a BK308.out 1).trans rfl; have hcz27_2 : w24.cell? ⟨gb308, 2, none⟩ = some (.int .i64 a1_2) := (q14a BK308.out 2).trans rfl; have hcz27_3 : w24.cell? ⟨gb308, 3, none⟩ = some (.int .i64 a1_3) := (q14a BK308.out 3).trans rfl; have hcz27_4 : w24.cell? ⟨gb308, 4, none⟩ = some (.bool a1_4) := (q14a BK308.out 4).trans rfl; have hfz27_0 := zc BK308.out 0; have hfz27_1 := zc BK308.out 1; have hfz27_2 := zc BK308.out 2; have hfz27_3 := zc BK308.out 3; have hfz27_4 := zc BK308.out 4))
  go_ret
  exact zH7
 rw [if_pos c5] at H
 have c5b0 : (a0_2 == a1_2) = true := beq_iff_eq.mpr c5
 have c5b1 : (a0_2 != a1_2) = false := bne_eq_false_iff_eq.mpr c5
 clear c5
 by_cases c6 : a0_3 = a1_3
 rotate_left
 ·rw [if_neg c6] at H
  have c6b0 : (a0_3 == a1_3) = false := beq_eq_false_iff_ne.mpr c6
  have c6b1 : (a0_3 != a1_3) = true := bne_iff_ne.mpr c6
  obtain rfl := Option.some.inj H
  go_enter Try.func47, Try.ntmps47
  go_wp2_with (first | ((with_reducible refine gate_dst (N := 2) rfl ?_); refine box_event ?hg (N := 2) ?hd (cs := (zl5 a0_0 a0_1 a0_2 a0_3 a0_4)) (t := 38) ?hr ?_; (case hd => rfl); (case hg => rfl); (case hr => exact zH83); intro gb307 hg w18 hbox hb; have n_ := zA_ (za (zr zG60 hb)) (zA_ (za (hbox)) (zA_ (zN1 w.heap.size hg (zp zG60)) (zN1 w.heap.size hg (zp zG60)))); clear HB; obtain ⟨HB, BK307, GW307, GE307⟩ := n_; clear hb hbox hg) | ((with_reducible refine gate_dst (N := 3) rfl ?_); refine box_event ?hg (N := 3) ?hd (cs := (zl5 a1_0 a1_1 a1_2 a1_3 a1_4)) (t := 38) ?hr ?_; (case hd => rfl); (case hg => rfl); (case hr => exact zH83); intro gb308 hg w19 hbox hb; have n_ := zA_ (za (zq (g := gb307) (o := .cells (zl5 a0_0 a0_1 a0_2 a0_3 a0_4) 38 (0, 0)) zG61 hb)) (zA_ (za (zr zG55 hb)) (zA_ (za (hbox)) (zA_ (zN1 w.heap.size hg (zp zG55)) (zA_ (zN1 w.heap.size hg (zp zG55)) (zN2 hg (zv (g := gb307) (o := .cells (zl5 a0_0 a0_1 a0_2 a0_3 a0_4) 38 (0, 0)) zG61)))))); clear BK307 HB; obtain ⟨BK307, HB, BK308, GW308, GE308, NB307_308, NB308_307⟩ := n_; clear hb hbox hg; have hnb20 := NB307_308.out; have hnc20 := NB308_307.out; have hcz21_0 : w19.cell? ⟨gb307, 0, none⟩ = some (.string a0_0) := (q14a BK307.out 0).trans rfl; have hcz21_1 : w19.cell? ⟨gb307, 1, none⟩ = some (.int .i64 a0_1) := (q14a BK307.out 1).trans rfl; have hcz21_2 : w19.cell? ⟨gb307, 2, none⟩ = some (.int .i64 a0_2) := (q14a BK307.out 2).trans rfl; have hcz21_3 : w19.cell? ⟨gb307, 3, none⟩ = some (.int .i64 a0_3) := (q14a BK307.out 3).trans rfl; have hcz21_4 : w19.cell? ⟨gb307, 4, none⟩ = some (.bool a0_4) := (q14a BK307.out 4).trans rfl; have hfz21_0 := zc BK307.out 0; have hfz21_1 := zc BK307.out 1; have hfz21_2 := zc BK307.out 2; have hfz21_3 := zc BK307.out 3; have hfz21_4 := zc BK307.out 4; have hcz22_0 : w19.cell? ⟨gb308, 0, none⟩ = some (.string a1_0) := (q14a BK308.out 0).trans rfl; have hcz22_1 : w19.cell? ⟨gb308, 1, none⟩ = some (.int .i64 a1_1) := (q14a BK308.out 1).trans rfl; have hcz22_2 : w19.cell? ⟨gb308, 2, none⟩ = some (.int .i64 a1_2) := (q14a BK308.out 2).trans rfl; have hcz22_3 : w19.cell? ⟨gb308, 3, none⟩ = some (.int .i64 a1_3) := (q14a BK308.out 3).trans rfl; have hcz22_4 : w19.cell? ⟨gb308, 4, none⟩ = some (.bool a1_4) := (q14a BK308.out 4).trans rfl; have hfz22_0 := zc BK308.out 0; have hfz22_1 := zc BK308.out 1; have hfz22_2 := zc BK308.out 2; have hfz22_3 := zc BK308.out 3; have hfz22_4 := zc BK308.out 4))
  go_ret
  exact zH7
 rw [if_pos c6] at H
 have c6b0 : (a0_3 == a1_3) = true := beq_iff_eq.mpr c6
 have c6b1 : (a0_3 != a1_3) = false := bne_eq_false_iff_eq.mpr c6
 clear c6
 by_cases c7 : (a0_4 != a1_4) = true
 rotate_left
 ·rw [if_neg c7] at H
  have c7b0 : (a0_4 != a1_4) = false := by simpa using c7
  (try (have c7b1 : decide (a0_4 = a1_4) = true := by simpa using c7))
  (try (have c7b2 : (a0_4 == a1_4) = true := by simpa using c7))
  clear c7
  obtain rfl := Option.some.inj H
  go_enter Try.func47, Try.ntmps47
  go_wp2_with (first | ((with_reducible refine gate_dst (N := 2) rfl ?_); refine box_event ?hg (N := 2) ?hd (cs := (zl5 a0_0 a0_1 a0_2 a0_3 a0_4)) (t := 38) ?hr ?_; (case hd => rfl); (case hg => rfl); (case hr => exact zH83); intro gb307 hg w13 hbox hb; have n_ := zA_ (za (zr zG60 hb)) (zA_ (za (hbox)) (zA_ (zN1 w.heap.size hg (zp zG60)) (zN1 w.heap.size hg (zp zG60)))); clear HB; obtain ⟨HB, BK307, GW307, GE307⟩ := n_; clear hb hbox hg) | ((with_reducible refine gate_dst (N := 3) rfl ?_); refine box_event ?hg (N := 3) ?hd (cs := (zl5 a1_0 a1_1 a1_2 a1_3 a1_4)) (t := 38) ?hr ?_; (case hd => rfl); (case hg => rfl); (case hr => exact zH83); intro gb308 hg w14 hbox hb; have n_ := zA_ (za (zq (g := gb307) (o := .cells (zl5 a0_0 a0_1 a0_2 a0_3 a0_4) 38 (0, 0)) zG61 hb)) (zA_ (za (zr zG55 hb)) (zA_ (za (hbox)) (zA_ (zN1 w.heap.size hg (zp zG55)) (zA_ (zN1 w.heap.size hg (zp zG55)) (zN2 hg (zv (g := gb307) (o := .cells (zl5 a0_0 a0_1 a0_2 a0_3 a0_4) 38 (0, 0)) zG61)))))); clear BK307 HB; obtain ⟨BK307, HB, BK308, GW308, GE308, NB307_308, NB308_307⟩ := n_; clear hb hbox hg; have hnb15 := NB307_308.out; have hnc15 := NB308_307.out; have hcz16_0 : w14.cell? ⟨gb307, 0, none⟩ = some (.string a0_0) := (q14a BK307.out 0).trans rfl; have hcz16_1 : w14.cell? ⟨gb307, 1, none⟩ = some (.int .i64 a0_1) := (q14a BK307.out 1).trans rfl; have hcz16_2 : w14.cell? ⟨gb307, 2, none⟩ = some (.int .i64 a0_2) := (q14a BK307.out 2).trans rfl; have hcz16_3 : w14.cell? ⟨gb307, 3, none⟩ = some (.int .i64 a0_3) := (q14a BK307.out 3).trans rfl; have hcz16_4 : w14.cell? ⟨gb307, 4, none⟩ = some (.bool a0_4) := (q14a BK307.out 4).trans rfl; have hfz16_0 := zc BK307.out 0; have hfz16_1 := zc BK307.out 1; have hfz16_2 := zc BK307.out 2; have hfz16_3 := zc BK307.out 3; have hfz16_4 := zc BK307.out 4; have hcz17_0 : w14.cell? ⟨gb308, 0, none⟩ = some (.string a1_0) := (q14a BK308.out 0).trans rfl; have hcz17_1 : w14.cell? ⟨gb308, 1, none⟩ = some (.int .i64 a1_1) := (q14a BK308.out 1).trans rfl; have hcz17_2 : w14.cell? ⟨gb308, 2, none⟩ = some (.int .i64 a1_2) := (q14a BK308.out 2).trans rfl; have hcz17_3 : w14.cell? ⟨gb308, 3, none⟩ = some (.int .i64 a1_3) := (q14a BK308.out 3).trans rfl; have hcz17_4 : w14.cell? ⟨gb308, 4, none⟩ = some (.bool a1_4) := (q14a BK308.out 4).trans rfl; have hfz17_0 := zc BK308.out 0; have hfz17_1 := zc BK308.out 1; have hfz17_2 := zc BK308.out 2; have hfz17_3 := zc BK308.out 3; have hfz17_4 := zc BK308.out 4))
  go_ret
  exact zH7
 rw [if_pos c7] at H
 have c7b0 : (a0_4 != a1_4) = true := c7
 (try (have c7b1 : decide (a0_4 = a1_4) = false := by simpa using c7))
 (try (have c7b2 : (a0_4 == a1_4) = false := by simpa using c7))
 (try (have c7b3 : ¬ (a0_4 = a1_4) := by simpa using c7))
 clear c7
 obtain rfl := Option.some.inj H
 go_enter Try.func47, Try.ntmps47
 go_wp2_with (first | ((with_reducible refine gate_dst (N := 2) rfl ?_); refine box_event ?hg (N := 2) ?hd (cs := (zl5 a0_0 a0_1 a0_2 a0_3 a0_4)) (t := 38) ?hr ?_; (case hd => rfl); (case hg => rfl); (case hr => exact zH83); intro gb307 hg w8 hbox hb; have n_ := zA_ (za (zr zG60 hb)) (zA_ (za (hbox)) (zA_ (zN1 w.heap.size hg (zp zG60)) (zN1 w.heap.size hg (zp zG60)))); clear HB; obtain ⟨HB, BK307, GW307, GE307⟩ := n_; clear hb hbox hg) | ((with_reducible refine gate_dst (N := 3) rfl ?_); refine box_event ?hg (N := 3) ?hd (cs := (zl5 a1_0 a1_1 a1_2 a1_3 a1_4)) (t := 38) ?hr ?_; (case hd => rfl); (case hg => rfl); (case hr => exact zH83); intro gb308 hg w9 hbox hb; have n_ := zA_ (za (zq (g := gb307) (o := .cells (zl5 a0_0 a0_1 a0_2 a0_3 a0_4) 38 (0, 0)) zG61 hb)) (zA_ (za (zr zG55 hb)) (zA_ (za (hbox)) (zA_ (zN1 w.heap.size hg (zp zG55)) (zA_ (zN1 w.heap.size hg (zp zG55)) (zN2 hg (zv (g := gb307) (o := .cells (zl5 a0_0 a0_1 a0_2 a0_3 a0_4) 38 (0, 0)) zG61)))))); clear BK307 HB; obtain ⟨BK307, HB, BK308, GW308, GE308, NB307_308, NB308_307⟩ := n_; clear hb hbox hg; have hnb10 := NB307_308.out; have hnc10 := NB308_307.out; have hcz11_0 : w9.cell? ⟨gb307, 0, none⟩ = some (.string a0_0) := (q14a BK307.out 0).trans rfl; have hcz11_1 : w9.cell? ⟨gb307, 1, none⟩ = some (.int .i64 a0_1) := (q14a BK307.out 1).trans rfl; have hcz11_2 : w9.cell? ⟨gb307, 2, none⟩ = some (.int .i64 a0_2) := (q14a BK307.out 2).trans rfl; have hcz11_3 : w9.cell? ⟨gb307, 3, none⟩ = some (.int .i64 a0_3) := (q14a BK307.out 3).trans rfl; have hcz11_4 : w9.cell? ⟨gb307, 4, none⟩ = some (.bool a0_4) := (q14a BK307.out 4).trans rfl; have hfz11_0 := zc BK307.out 0; have hfz11_1 := zc BK307.out 1; have hfz11_2 := zc BK307.out 2; have hfz11_3 := zc BK307.out 3; have hfz11_4 := zc BK307.out 4; have hcz12_0 : w9.cell? ⟨gb308, 0, none⟩ = some (.string a1_0) := (q14a BK308.out 0).trans rfl; have hcz12_1 : w9.cell? ⟨gb308, 1, none⟩ = some (.int .i64 a1_1) := (q14a BK308.out 1).trans rfl; have hcz12_2 : w9.cell? ⟨gb308, 2, none⟩ = some (.int .i64 a1_2) := (q14a BK308.out 2).trans rfl; have hcz12_3 : w9.cell? ⟨gb308, 3, none⟩ = some (.int .i64 a1_3) := (q14a BK308.out 3).trans rfl; have hcz12_4 : w9.cell? ⟨gb308, 4, none⟩ = some (.bool a1_4) := (q14a BK308.out 4).trans rfl; have hfz12_0 := zc BK308.out 0; have hfz12_1 := zc BK308.out 1; have hfz12_2 := zc BK308.out 2; have hfz12_3 := zc BK308.out 3; have hfz12_4 := zc BK308.out 4))
 go_ret
 exact zH7
end Go.Proofs.Ytnkceaibkfbeaaa.E
