-- squeezed
-- made by pp.py (wip/tools) out of the translation; Lean checks it
import Derived.Test.YtnkceaibkfbeaaaE0
namespace Go.Proofs.Ytnkceaibkfbeaaa.E
open Go.RowKit Go.Proofs.YtnkceaibkfbeaaaW.PrintWords Go.Proofs.YtnkceaibkfbeaaaW.PrintLast Go.Proofs.YtnkceaibkfbeaaaW.PrintMore
attribute [local go_sem] max2_int min2_int max_two min_two max_three min_three max_four min_four   -- for this text's walks alone
set_option linter.unusedVariables false
set_option linter.unusedSimpArgs false

abbrev q9a := @blk_cell
/-! ### spec_l14Units: function 42 -/
def spec_l14Units.l0 : Nat → ByteArray → Int → Int → Int → Int → Int → Int → Int → Int → List (S38) → Option (Int)
 | 0, _, _, _, _, _, _, _, _, _, _ => none
 | k + 1, x1, x2, x7, x8, x177000, x177001, x177002, x177003, x177004, x177005 => if x8 < (x177005.length : Int) then (if 0 ≤ x8 then (if ((rd_T38 x177005 x8).f0).toList = x1.toList then (if x2 = 2 then (spec_l14Units.l0 k x1 x2 (wrap64 (x7 + ((rd_T38 x177005 x8).f2))) (wrap64 (x8 + 1)) x177000 x177001 x177002 x177003 x177004 x177005) else (if ((rd_T38 x177005 x8).f3) ≥ x177000 then (if x2 = 1 then (spec_l14Units.l0 k x1 x2 (wrap64 (x7 + ((rd_T38 x177005 x8).f2))) (wrap64 (x8 + 1)) x177000 x177001 x177002 x177003 x177004 x177005) else (if ((rd_T38 x177005 x8).f4 = true) then (spec_l14Units.l0 k x1 x2 x7 (wrap64 (x8 + 1)) x177000 x177001 x177002 x177003 x177004 x177005) else (spec_l14Units.l0 k x1 x2 (wrap64 (x7 + ((rd_T38 x177005 x8).f2))) (wrap64 (x8 + 1)) x177000 x177001 x177002 x177003 x177004 x177005))) else (spec_l14Units.l0 k x1 x2 x7 (wrap64 (x8 + 1)) x177000 x177001 x177002 x177003 x177004 x177005))) else (spec_l14Units.l0 k x1 x2 x7 (wrap64 (x8 + 1)) x177000 x177001 x177002 x177003 x177004 x177005)) else (none)) else (some x7)
def spec_l14Units.f (k : Nat) (a0_0 : Int) (a0_1 : Int) (a0_2 : Int) (a0_3 : Int) (a0_4 : Int) (l0_5 : List (S38)) (a1 : ByteArray) (a2 : Int) : Option (Int) := spec_l14Units.l0 k a1 a2 0 0 a0_0 a0_1 a0_2 a0_3 a0_4 l0_5
theorem spec_l14Units.mono_l : ∀ k, (∀ y0 y1 y2 y3 y4 y5 y6 y7 y8 y9, LeO (spec_l14Units.l0 k y0 y1 y2 y3 y4 y5 y6 y7 y8 y9) (spec_l14Units.l0 (k + 1) y0 y1 y2 y3 y4 y5 y6 y7 y8 y9))
 | 0 => fun _ _ _ _ _ _ _ _ _ _ r h => by simp [spec_l14Units.l0] at h
 | k + 1 => by
  have ih0 := spec_l14Units.mono_l k
  ·intro y0 y1 y2 y3 y4 y5 y6 y7 y8 y9
   unfold spec_l14Units.l0
   repeat' first
   | (with_reducible exact ih0 _ _ _ _ _ _ _ _ _ _)
   | (with_reducible exact LeO.refl _)
   | (with_reducible exact LeO.none _)
   | (with_reducible refine LeO.ite ?_ ?_)
   | (with_reducible refine LeO.bind ?_ (fun _ => ?_))
   | exact ih0 _ _ _ _ _ _ _ _ _ _
   | exact LeO.none _
   | refine LeO.ite ?_ ?_
   | refine LeO.bind ?_ (fun _ => ?_)
theorem spec_l14Units.mono : ∀ a0 a1 a2 a3 a4 a5 a6 a7 k, LeO (spec_l14Units.f k a0 a1 a2 a3 a4 a5 a6 a7) (spec_l14Units.f (k + 1) a0 a1 a2 a3 a4 a5 a6 a7) := by
 intro a0 a1 a2 a3 a4 a5 a6 a7 k
 have ih0 := spec_l14Units.mono_l k
 unfold spec_l14Units.f
 repeat' first
   | (with_reducible exact ih0 _ _ _ _ _ _ _ _ _ _)
   | (with_reducible exact LeO.refl _)
   | (with_reducible exact LeO.none _)
   | (with_reducible refine LeO.ite ?_ ?_)
   | (with_reducible refine LeO.bind ?_ (fun _ => ?_))
   | exact ih0 _ _ _ _ _ _ _ _ _ _
   | exact LeO.none _
   | refine LeO.ite ?_ ?_
   | refine LeO.bind ?_ (fun _ => ?_)
set_option maxHeartbeats 64000000 in
set_option maxRecDepth 100000 in
theorem spec_l14Units.calls (k : Nat) (a0_0 : Int) (a0_1 : Int) (a0_2 : Int) (a0_3 : Int) (a0_4 : Int) (A0_5 : Option Addr) (c0_5 : Nat) (l0_5 : List (S38)) (a1 : ByteArray) (a2 : Int) (r : Int) (w : World) (hr0_5 : Kd.C k38 w A0_5 l0_5.length l0_5) (hc0_5 : l0_5.length ≤ c0_5) (h : spec_l14Units.f k a0_0 a0_1 a0_2 a0_3 a0_4 l0_5 a1 a2 = some r) :
  Calls Try.prog 42 #[.agg (zs6 a0_0 a0_1 a0_2 a0_3 a0_4 (.slice A0_5 l0_5.length c0_5)), .string a1, .int .i64 a2] w fun e w' => e = .returned (.int .i64 r) ∧ Below w.heap.size w w' := by
 have hu29 := Try.underlying29
 have hu38 := Try.underlying38
 obtain ⟨HR0_5, HC0_5, HB⟩ := zD3 hr0_5 hc0_5 (Below.refl w.heap.size w)
 clear hr0_5 hc0_5
 have H : (spec_l14Units.l0 k a1 a2 0 0 a0_0 a0_1 a0_2 a0_3 a0_4 l0_5) = some r := h
 clear h
 have H' := za H
 clear H
 go_enter Try.func42, Try.ntmps42
 go_wp2_with (first | ((with_reducible refine gate_dst (N := 3) rfl ?_); refine box_event ?hg (N := 3) ?hd (cs := (zs6 a0_0 a0_1 a0_2 a0_3 a0_4 (.slice A0_5 l0_5.length c0_5))) (t := 29) ?hr ?_; (case hd => rfl); (case hg => rfl); (case hr => exact zH83); intro gb176 hg w4 hbox hb; have n_ := zA_ (za (zr zG60 hb)) (zA_ (za (hbox)) (zA_ (zN1 w.heap.size hg (zp zG60)) (zN1 w.heap.size hg (zp zG60)))); clear HB; obtain ⟨HB, BK176, GW176, GE176⟩ := n_; clear hb hbox hg))
 go_loopg [7, 8] k (fun kq v7 v8 w' => ∃ (x7_1 : Int) (x8_1 : Int), v7 = .int .i64 x7_1 ∧ v8 = .int .i64 x8_1 ∧ Aside0 (spec_l14Units.l0 kq a1 a2 x7_1 x8_1 a0_0 a0_1 a0_2 a0_3 a0_4 l0_5 = some r) ∧ Aside0 (kq ≤ k) ∧ Aside0 (w'.heap[gb176]? = some (.cells (zs6 a0_0 a0_1 a0_2 a0_3 a0_4 (.slice A0_5 l0_5.length c0_5)) 29 (0, 0))) ∧ Aside0 (Below w.heap.size w w'))
 case atStart => exact ⟨(0), (0), zG82, zG82, H', ⟨Nat.le_refl _⟩, ⟨by (with_reducible repeat (first | refine zf ?_ _ | refine zg ?_ | refine ze ?_ _)); exact BK176.out⟩, ⟨zH43⟩⟩
 case round =>
  clear H'
  obtain ⟨x7_1, x8_1, rfl, rfl, HA, HK1, BK176, HB⟩ := hrel
  cases gk with
  | zero => exact absurd HA.out (by simp [spec_l14Units.l0])
  | succ k1 =>
   have H := HA.out
   clear HA
   simp only [spec_l14Units.l0] at H
   by_cases c5 : x8_1 < (l0_5.length : Int)
   rotate_left
   ·rw [if_neg c5] at H
    have c5b0 := decide_eq_false c5
    clear c5
    obtain rfl := Option.some.inj H
    have hcz41_0 : wr.cell? ⟨gb176, 0, none⟩ = some (.int .i64 a0_0) := (q9a BK176.out 0).trans rfl
    have hcz41_1 : wr.cell? ⟨gb176, 1, none⟩ = some (.int .i64 a0_1) := (q9a BK176.out 1).trans rfl
    have hcz41_2 : wr.cell? ⟨gb176, 2, none⟩ = some (.int .i64 a0_2) := (q9a BK176.out 2).trans rfl
    have hcz41_3 : wr.cell? ⟨gb176, 3, none⟩ = some (.int .i64 a0_3) := (q9a BK176.out 3).trans rfl
    have hcz41_4 : wr.cell? ⟨gb176, 4, none⟩ = some (.int .i64 a0_4) := (q9a BK176.out 4).trans rfl
    have hcz41_5 : wr.cell? ⟨gb176, 5, none⟩ = some (.slice A0_5 l0_5.length c0_5) := (q9a BK176.out 5).trans rfl
    have hfz41_0 := zc BK176.out 0
    have hfz41_1 := zc BK176.out 1
    have hfz41_2 := zc BK176.out 2
    have hfz41_3 := zc BK176.out 3
    have hfz41_4 := zc BK176.out 4
    have hfz41_5 := zc BK176.out 5
    go_wp2
    go_ret
    exact ⟨zH68, zH43⟩

   rw [if_pos c5] at H
   have c5b0 := decide_eq_true c5
   clear c5
   by_cases c6 : 0 ≤ x8_1
   rotate_left
   ·rw [if_neg c6] at H
    exact absurd H (by simp)
   rw [if_pos c6] at H
   have c6b0 := decide_eq_true c6
   clear c6
   by_cases c7 : ((rd_T38 l0_5 x8_1).f0).toList = a1.toList
   rotate_left
   ·rw [if_neg c7] at H
    have c7b0 : (((rd_T38 l0_5 x8_1).f0).toList == a1.toList) = false := beq_eq_false_iff_ne.mpr c7
    have c7b1 : (((rd_T38 l0_5 x8_1).f0).toList != a1.toList) = true := bne_iff_ne.mpr c7
    have H' := za H
    clear H
    have hcz37_0 : wr.cell? ⟨gb176, 0, none⟩ = some (.int .i64 a0_0) := (q9a BK176.out 0).trans rfl
    have hcz37_1 : wr.cell? ⟨gb176, 1, none⟩ = some (.int .i64 a0_1) := (q9a BK176.out 1).trans rfl
    have hcz37_2 : wr.cell? ⟨gb176, 2, none⟩ = some (.int .i64 a0_2) := (q9a BK176.out 2).trans rfl
    have hcz37_3 : wr.cell? ⟨gb176, 3, none⟩ = some (.int .i64 a0_3) := (q9a BK176.out 3).trans rfl
    have hcz37_4 : wr.cell? ⟨gb176, 4, none⟩ = some (.int .i64 a0_4) := (q9a BK176.out 4).trans rfl
    have hcz37_5 : wr.cell? ⟨gb176, 5, none⟩ = some (.slice A0_5 l0_5.length c0_5) := (q9a BK176.out 5).trans rfl
    have hfz37_0 := zc BK176.out 0
    have hfz37_1 := zc BK176.out 1
    have hfz37_2 := zc BK176.out 2
    have hfz37_3 := zc BK176.out 3
    have hfz37_4 := zc BK176.out 4
    have hfz37_5 := zc BK176.out 5
    have p177 : 0 ≤ (x8_1 : Int) := zO
    have q177 : x8_1 < (l0_5.length : Int) := zO
    obtain ⟨ad177, e177, hx177_0, hx177_1, hx177_2, hx177_3, hx177_4⟩ := at_T38 HR0_5.out x8_1 p177 q177
    cases e177
    replace hx177_0 := (HB.out.cell (zb w _ hx177_0)).trans hx177_0
    replace hx177_1 := (HB.out.cell (zb w _ hx177_1)).trans hx177_1
    replace hx177_2 := (HB.out.cell (zb w _ hx177_2)).trans hx177_2
    replace hx177_3 := (HB.out.cell (zb w _ hx177_3)).trans hx177_3
    replace hx177_4 := (HB.out.cell (zb w _ hx177_4)).trans hx177_4
    replace p177 := eq_true p177
    replace q177 := eq_true q177
    go_wp2_with (first | ((with_reducible refine gate_dst (N := 9) rfl ?_); refine box_event ?hg (N := 9) ?hd (cs := (zl5 (⟨#[]⟩ : ByteArray) 0 0 0 false)) (t := 38) ?hr ?_; (case hd => rfl); (case hg => rfl); (case hr => exact zH83); intro gb178 hg w38 hbox hb; have n_ := zA_ (za (zq (g := gb176) (o := .cells (zs6 a0_0 a0_1 a0_2 a0_3 a0_4 (.slice (some ad177) l0_5.length c0_5)) 29 (0, 0)) zG62 hb)) (zA_ (za (zr zG56 hb)) (zA_ (za (hbox)) (zA_ (zN1 w.heap.size hg (zp zG56)) (zA_ (zN1 w.heap.size hg (zp zG56)) (zN2 hg (zv (g := gb176) (o := .cells (zs6 a0_0 a0_1 a0_2 a0_3 a0_4 (.slice (some ad177) l0_5.length c0_5)) 29 (0, 0)) zG62)))))); clear BK176 HB; obtain ⟨BK176, HB, BK178, GW178, GE178, NB176_178, NB178_176⟩ := n_; clear hb hbox hg; have hnb39 := NB178_176.out; have hnc39 := NB176_178.out; have hcz40_0 : w38.cell? ⟨gb178, 0, none⟩ = some (.string (⟨#[]⟩ : ByteArray)) := (q9a BK178.out 0).trans rfl; have hcz40_1 : w38.cell? ⟨gb178, 1, none⟩ = some (.int .i64 0) := (q9a BK178.out 1).trans rfl; have hcz40_2 : w38.cell? ⟨gb178, 2, none⟩ = some (.int .i64 0) := (q9a BK178.out 2).trans rfl; have hcz40_3 : w38.cell? ⟨gb178, 3, none⟩ = some (.int .i64 0) := (q9a BK178.out 3).trans rfl; have hcz40_4 : w38.cell? ⟨gb178, 4, none⟩ = some (.bool false) := (q9a BK178.out 4).trans rfl; have hfz40_0 := zc BK178.out 0; have hfz40_1 := zc BK178.out 1; have hfz40_2 := zc BK178.out 2; have hfz40_3 := zc BK178.out 3; have hfz40_4 := zc BK178.out 4))
    go_roundg k1
    case measure => have := HK1.out; omega
    case rel => exact ⟨(x7_1), (wrap64 (x8_1 + 1)), zG82, zG82, H', ⟨zH88⟩, ⟨zH0⟩, ⟨zH23⟩⟩
   rw [if_pos c7] at H
   have c7b0 : (((rd_T38 l0_5 x8_1).f0).toList == a1.toList) = true := beq_iff_eq.mpr c7
   have c7b1 : (((rd_T38 l0_5 x8_1).f0).toList != a1.toList) = false := bne_eq_false_iff_eq.mpr c7
   clear c7
   by_cases c8 : a2 = 2
   ·rw [if_pos c8] at H
    have c8b0 : (a2 == 2) = true := beq_iff_eq.mpr c8
    have c8b1 : (a2 != 2) = false := bne_eq_false_iff_eq.mpr c8
    clear c8
    have H' := za H
    clear H
    have hcz9_0 : wr.cell? ⟨gb176, 0, none⟩ = some (.int .i64 a0_0) := (q9a BK176.out 0).trans rfl
    have hcz9_1 : wr.cell? ⟨gb176, 1, none⟩ = some (.int .i64 a0_1) := (q9a BK176.out 1).trans rfl
    have hcz9_2 : wr.cell? ⟨gb176, 2, none⟩ = some (.int .i64 a0_2) := (q9a BK176.out 2).trans rfl
    have hcz9_3 : wr.cell? ⟨gb176, 3, none⟩ = some (.int .i64 a0_3) := (q9a BK176.out 3).trans rfl
    have hcz9_4 : wr.cell? ⟨gb176, 4, none⟩ = some (.int .i64 a0_4) := (q9a BK176.out 4).trans rfl
    have hcz9_5 : wr.cell? ⟨gb176, 5, none⟩ = some (.slice A0_5 l0_5.length c0_5) := (q9a BK176.out 5).trans rfl
    have hfz9_0 := zc BK176.out 0
    have hfz9_1 := zc BK176.out 1
    have hfz9_2 := zc BK176.out 2
    have hfz9_3 := zc BK176.out 3
    have hfz9_4 := zc BK176.out 4
    have hfz9_5 := zc BK176.out 5
    have p177 : 0 ≤ (x8_1 : Int) := zO
    have q177 : x8_1 < (l0_5.length : Int) := zO
    obtain ⟨ad177, e177, hx177_0, hx177_1, hx177_2, hx177_3, hx177_4⟩ := at_T38 HR0_5.out x8_1 p177 q177
    cases e177
    replace hx177_0 := (HB.out.cell (zb w _ hx177_0)).trans hx177_0
    replace hx177_1 := (HB.out.cell (zb w _ hx177_1)).trans hx177_1
    replace hx177_2 := (HB.out.cell (zb w _ hx177_2)).trans hx177_2
    replace hx177_3 := (HB.out.cell (zb w _ hx177_3)).trans hx177_3
    replace hx177_4 := (HB.out.cell (zb w _ hx177_4)).trans hx177_4
    replace p177 := eq_true p177
    replace q177 := eq_true q177
    go_wp2_with (first | ((with_reducible refine gate_dst (N := 9) rfl ?_); refine box_event ?hg (N := 9) ?hd (cs := (zl5 (⟨#[]⟩ : ByteArray) 0 0 0 false)) (t := 38) ?hr ?_; (case hd => rfl); (case hg => rfl); (case hr => exact zH83); intro gb178 hg w10 hbox hb; have n_ := zA_ (za (zq (g := gb176) (o := .cells (zs6 a0_0 a0_1 a0_2 a0_3 a0_4 (.slice (some ad177) l0_5.length c0_5)) 29 (0, 0)) zG62 hb)) (zA_ (za (zr zG56 hb)) (zA_ (za (hbox)) (zA_ (zN1 w.heap.size hg (zp zG56)) (zA_ (zN1 w.heap.size hg (zp zG56)) (zN2 hg (zv (g := gb176) (o := .cells (zs6 a0_0 a0_1 a0_2 a0_3 a0_4 (.slice (some ad177) l0_5.length c0_5)) 29 (0, 0)) zG62)))))); clear BK176 HB; obtain ⟨BK176, HB, BK178, GW178, GE178, NB176_178, NB178_176⟩ := n_; clear hb hbox hg; have hnb11 := NB178_176.out; have hnc11 := NB176_178.out; have hcz12_0 : w10.cell? ⟨gb178, 0, none⟩ = some (.string (⟨#[]⟩ : ByteArray)) := (q9a BK178.out 0).trans rfl; have hcz12_1 : w10.cell? ⟨gb178, 1, none⟩ = some (.int .i64 0) := (q9a BK178.out 1).trans rfl; have hcz12_2 : w10.cell? ⟨gb178, 2, none⟩ = some (.int .i64 0) := (q9a BK178.out 2).trans rfl; have hcz12_3 : w10.cell? ⟨gb178, 3, none⟩ = some (.int .i64 0) := (q9a BK178.out 3).trans rfl; have hcz12_4 : w10.cell? ⟨gb178, 4, none⟩ = some (.bool false) := (q9a BK178.out 4).trans rfl; have hfz12_0 := zc BK178.out 0; have hfz12_1 := zc BK178.out 1; have hfz12_2 := zc BK178.out 2; have hfz12_3 := zc BK178.out 3; have hfz12_4 := zc BK178.out 4))
    go_roundg k1
    case measure => have := HK1.out; omega
    case rel => exact ⟨(wrap64 (x7_1 + ((rd_T38 l0_5 x8_1).f2))), (wrap64 (x8_1 + 1)), zG82, zG82, H', ⟨zH88⟩, ⟨zH0⟩, ⟨zH23⟩⟩
   rw [if_neg c8] at H
   have c8b0 : (a2 == 2) = false := beq_eq_false_iff_ne.mpr c8
   have c8b1 : (a2 != 2) = true := bne_iff_ne.mpr c8
   by_cases c13 : ((rd_T38 l0_5 x8_1).f3) ≥ a0_0
   rotate_left
   ·rw [if_neg c13] at H
    have c13b0 : decide (a0_0 ≤ ((rd_T38 l0_5 x8_1).f3)) = false := decide_eq_false c13
    clear c13
    have H' := za H
    clear H
    have hcz32_0 : wr.cell? ⟨gb176, 0, none⟩ = some (.int .i64 a0_0) := (q9a BK176.out 0).trans rfl
    have hcz32_1 : wr.cell? ⟨gb176, 1, none⟩ = some (.int .i64 a0_1) := (q9a BK176.out 1).trans rfl
    have hcz32_2 : wr.cell? ⟨gb176, 2, none⟩ = some (.int .i64 a0_2) := (q9a BK176.out 2).trans rfl
    have hcz32_3 : wr.cell? ⟨gb176, 3, none⟩ = some (.int .i64 a0_3) := (q9a BK176.out 3).trans rfl
    have hcz32_4 : wr.cell? ⟨gb176, 4, none⟩ = some (.int .i64 a0_4) := (q9a BK176.out 4).trans rfl
    have hcz32_5 : wr.cell? ⟨gb176, 5, none⟩ = some (.slice A0_5 l0_5.length c0_5) := (q9a BK176.out 5).trans rfl
    have hfz32_0 := zc BK176.out 0
    have hfz32_1 := zc BK176.out 1
    have hfz32_2 := zc BK176.out 2
    have hfz32_3 := zc BK176.out 3
    have hfz32_4 := zc BK176.out 4
    have hfz32_5 := zc BK176.out 5
    have p177 : 0 ≤ (x8_1 : Int) := zO
    have q177 : x8_1 < (l0_5.length : Int) := zO
    obtain ⟨ad177, e177, hx177_0, hx177_1, hx177_2, hx177_3, hx177_4⟩ := at_T38 HR0_5.out x8_1 p177 q177
    cases e177
    replace hx177_0 := (HB.out.cell (zb w _ hx177_0)).trans hx177_0
    replace hx177_1 := (HB.out.cell (zb w _ hx177_1)).trans hx177_1
    replace hx177_2 := (HB.out.cell (zb w _ hx177_2)).trans hx177_2
    replace hx177_3 := (HB.out.cell (zb w _ hx177_3)).trans hx177_3
    replace hx177_4 := (HB.out.cell (zb w _ hx177_4)).trans hx177_4
    replace p177 := eq_true p177
    replace q177 := eq_true q177
    go_wp2_with (first | ((with_reducible refine gate_dst (N := 9) rfl ?_); refine box_event ?hg (N := 9) ?hd (cs := (zl5 (⟨#[]⟩ : ByteArray) 0 0 0 false)) (t := 38) ?hr ?_; (case hd => rfl); (case hg => rfl); (case hr => exact zH83); intro gb178 hg w33 hbox hb; have n_ := zA_ (za (zq (g := gb176) (o := .cells (zs6 a0_0 a0_1 a0_2 a0_3 a0_4 (.slice (some ad177) l0_5.length c0_5)) 29 (0, 0)) zG62 hb)) (zA_ (za (zr zG56 hb)) (zA_ (za (hbox)) (zA_ (zN1 w.heap.size hg (zp zG56)) (zA_ (zN1 w.heap.size hg (zp zG56)) (zN2 hg (zv (g := gb176) (o := .cells (zs6 a0_0 a0_1 a0_2 a0_3 a0_4 (.slice (some ad177) l0_5.length c0_5)) 29 (0, 0)) zG62)))))); clear BK176 HB; obtain ⟨BK176, HB, BK178, GW178, GE178, NB176_178, NB178_176⟩ := n_; clear hb hbox hg; have hnb34 := NB178_176.out; have hnc34 := NB176_178.out; have hcz35_0 : w33.cell? ⟨gb178, 0, none⟩ = some (.string (⟨#[]⟩ : ByteArray)) := (q9a BK178.out 0).trans rfl; have hcz35_1 : w33.cell? ⟨gb178, 1, none⟩ = some (.int .i64 0) := (q9a BK178.out 1).trans rfl; have hcz35_2 : w33.cell? ⟨gb178, 2, none⟩ = some (.int .i64 0) := (q9a BK178.out 2).trans rfl; have hcz35_3 : w33.cell? ⟨gb178, 3, none⟩ = some (.int .i64 0) := (q9a BK178.out 3).trans rfl; have hcz35_4 : w33.cell? ⟨gb178, 4, none⟩ = some (.bool false) := (q9a BK178.out 4).trans rfl; have hfz35_0 := zc BK178.out 0; have hfz35_1 := zc BK178.out 1; have hfz35_2 := zc BK178.out 2; have hfz35_3 := zc BK178.out 3; have hfz35_4 := zc BK178.out 4; have hcz36_0 : w33.cell? ⟨gb176, 0, none⟩ = some (.int .i64 a0_0) := (q9a BK176.out 0).trans rfl; have hcz36_1 : w33.cell? ⟨gb176, 1, none⟩ = some (.int .i64 a0_1) := (q9a BK176.out 1).trans rfl; have hcz36_2 : w33.cell? ⟨gb176, 2, none⟩ = some (.int .i64 a0_2) := (q9a BK176.out 2).trans rfl; have hcz36_3 : w33.cell? ⟨gb176, 3, none⟩ = some (.int .i64 a0_3) := (q9a BK176.out 3).trans rfl; have hcz36_4 : w33.cell? ⟨gb176, 4, none⟩ = some (.int .i64 a0_4) := (q9a BK176.out 4).trans rfl; have hcz36_5 : w33.cell? ⟨gb176, 5, none⟩ = some (.slice (some ad177) l0_5.length c0_5) := (q9a BK176.out 5).trans rfl; have hfz36_0 := zc BK176.out 0; have hfz36_1 := zc BK176.out 1; have hfz36_2 := zc BK176.out 2; have hfz36_3 := zc BK176.out 3; have hfz36_4 := zc BK176.out 4; have hfz36_5 := zc BK176.out 5))
    go_roundg k1
    case measure => have := HK1.out; omega
    case rel => exact ⟨(x7_1), (wrap64 (x8_1 + 1)), zG82, zG82, H', ⟨zH88⟩, ⟨zH0⟩, ⟨zH23⟩⟩
   rw [if_pos c13] at H
   have c13b0 : decide (a0_0 ≤ ((rd_T38 l0_5 x8_1).f3)) = true := decide_eq_true c13
   clear c13
   by_cases c14 : a2 = 1
   ·rw [if_pos c14] at H
    have c14b0 : (a2 == 1) = true := beq_iff_eq.mpr c14
    have c14b1 : (a2 != 1) = false := bne_eq_false_iff_eq.mpr c14
    clear c14
    have H' := za H
    clear H
    have hcz15_0 : wr.cell? ⟨gb176, 0, none⟩ = some (.int .i64 a0_0) := (q9a BK176.out 0).trans rfl
    have hcz15_1 : wr.cell? ⟨gb176, 1, none⟩ = some (.int .i64 a0_1) := (q9a BK176.out 1).trans rfl
    have hcz15_2 : wr.cell? ⟨gb176, 2, none⟩ = some (.int .i64 a0_2) := (q9a BK176.out 2).trans rfl
    have hcz15_3 : wr.cell? ⟨gb176, 3, none⟩ = some (.int .i64 a0_3) := (q9a BK176.out 3).trans rfl
    have hcz15_4 : wr.cell? ⟨gb176, 4, none⟩ = some (.int .i64 a0_4) := (q9a BK176.out 4).trans rfl
    have hcz15_5 : wr.cell? ⟨gb176, 5, none⟩ = some (.slice A0_5 l0_5.length c0_5) := (q9a BK176.out 5).trans rfl
    have hfz15_0 := zc BK176.out 0
    have hfz15_1 := zc BK176.out 1
    have hfz15_2 := zc BK176.out 2
    have hfz15_3 := zc BK176.out 3
    have hfz15_4 := zc BK176.out 4
    have hfz15_5 := zc BK176.out 5
    have p177 : 0 ≤ (x8_1 : Int) := zO
    have q177 : x8_1 < (l0_5.length : Int) := zO
    obtain ⟨ad177, e177, hx177_0, hx177_1, hx177_2, hx177_3, hx177_4⟩ := at_T38 HR0_5.out x8_1 p177 q177
    cases e177
    replace hx177_0 := (HB.out.cell (zb w _ hx177_0)).trans hx177_0
    replace hx177_1 := (HB.out.cell (zb w _ hx177_1)).trans hx177_1
    replace hx177_2 := (HB.out.cell (zb w _ hx177_2)).trans hx177_2
    replace hx177_3 := (HB.out.cell (zb w _ hx177_3)).trans hx177_3
    replace hx177_4 := (HB.out.cell (zb w _ hx177_4)).trans hx177_4
    replace p177 := eq_true p177
    replace q177 := eq_true q177
    go_wp2_with (first | ((with_reducible refine gate_dst (N := 9) rfl ?_); refine box_event ?hg (N := 9) ?hd (cs := (zl5 (⟨#[]⟩ : ByteArray) 0 0 0 false)) (t := 38) ?hr ?_; (case hd => rfl); (case hg => rfl); (case hr => exact zH83); intro gb178 hg w16 hbox hb; have n_ := zA_ (za (zq (g := gb176) (o := .cells (zs6 a0_0 a0_1 a0_2 a0_3 a0_4 (.slice (some ad177) l0_5.length c0_5)) 29 (0, 0)) zG62 hb)) (zA_ (za (zr zG56 hb)) (zA_ (za (hbox)) (zA_ (zN1 w.heap.size hg (zp zG56)) (zA_ (zN1 w.heap.size hg (zp zG56)) (zN2 hg (zv (g := gb176) (o := .cells (zs6 a0_0 a0_1 a0_2 a0_3 a0_4 (.slice (some ad177) l0_5.length c0_5)) 29 (0, 0)) zG62)))))); clear BK176 HB; obtain ⟨BK176, HB, BK178, GW178, GE178, NB176_178, NB178_176⟩ := n_; clear hb hbox hg; have hnb17 := NB178_176.out; have hnc17 := NB176_178.out; have hcz18_0 : w16.cell? ⟨gb178, 0, none⟩ = some (.string (⟨#[]⟩ : ByteArray)) := (q9a BK178.out 0).trans rfl; have hcz18_1 : w16.cell? ⟨gb178, 1, none⟩ = some (.int .i64 0) := (q9a BK178.out 1).trans rfl; have hcz18_2 : w16.cell? ⟨gb178, 2, none⟩ = some (.int .i64 0) := (q9a BK178.out 2).trans rfl; have hcz18_3 : w16.cell? ⟨gb178, 3, none⟩ = some (.int .i64 0) := (q9a BK178.out 3).trans rfl; have hcz18_4 : w16.cell? ⟨gb178, 4, none⟩ = some (.bool false) := (q9a BK178.out 4).trans rfl; have hfz18_0 := zc BK178.out 0; have hfz18_1 := zc BK178.out 1; have hfz18_2 := zc BK178.out 2; have hfz18_3 := zc BK178.out 3; have hfz18_4 := zc BK178.out 4; have hcz19_0 : w16.cell? ⟨gb176, 0, none⟩ = some (.int .i64 a0_0) := (q9a BK176.out 0).trans rfl; have hcz19_1 : w16.cell? ⟨gb176, 1, none⟩ = some (.int .i64 a0_1) := (q9a BK176.out 1).trans rfl; have hcz19_2 : w16.cell? ⟨gb176, 2, none⟩ = some (.int .i64 a0_2) := (q9a BK176.out 2).trans rfl; have hcz19_3 : w16.cell? ⟨gb176, 3, none⟩ = some (.int .i64 a0_3) := (q9a BK176.out 3).trans rfl; have hcz19_4 : w16.cell? ⟨gb176, 4, none⟩ = some (.int .i64 a0_4) := (q9a BK176.out 4).trans rfl; have hcz19_5 : w16.cell? ⟨gb176, 5, none⟩ = some (.slice (some ad177) l0_5.length c0_5) := (q9a BK176.out 5).trans rfl; have hfz19_0 := zc BK176.out 0; have hfz19_1 := zc BK176.out 1; have hfz19_2 := zc BK176.out 2; have hfz19_3 := zc BK176.out 3; have hfz19_4 := zc BK176.out 4; have hfz19_5 := zc BK176.out 5))
    go_roundg k1
    case measure => have := HK1.out; omega
    case rel => exact ⟨(wrap64 (x7_1 + ((rd_T38 l0_5 x8_1).f2))), (wrap64 (x8_1 + 1)), zG82, zG82, H', ⟨zH88⟩, ⟨zH0⟩, ⟨zH23⟩⟩
   rw [if_neg c14] at H
   have c14b0 : (a2 == 1) = false := beq_eq_false_iff_ne.mpr c14
   have c14b1 : (a2 != 1) = true := bne_iff_ne.mpr c14
   obtain ⟨bq20, hbq20⟩ : ∃ b_ : Bool, b_ = ((rd_T38 l0_5 x8_1).f4) := ⟨_, rfl⟩
   replace H : (if (bq20 = true) then (spec_l14Units.l0 k1 a1 a2 x7_1 (wrap64 (x8_1 + 1)) a0_0 a0_1 a0_2 a0_3 a0_4 l0_5) else (spec_l14Units.l0 k1 a1 a2 (wrap64 (x7_1 + ((rd_T38 l0_5 x8_1).f2))) (wrap64 (x8_1 + 1)) a0_0 a0_1 a0_2 a0_3 a0_4 l0_5)) = some r := by rw [← hbq20] at H; exact H
   have Nbq20 := za hbq20
   clear hbq20
   by_cases c21 : (bq20 = true)
   ·subst c21
    have H1 : (spec_l14Units.l0 k1 a1 a2 x7_1 (wrap64 (x8_1 + 1)) a0_0 a0_1 a0_2 a0_3 a0_4 l0_5) = some r := by rw [if_pos rfl] at H; exact H
    clear H
    have H := H1
    clear H1
    have H' := za H
    clear H
    have hcz22_0 : wr.cell? ⟨gb176, 0, none⟩ = some (.int .i64 a0_0) := (q9a BK176.out 0).trans rfl
    have hcz22_1 : wr.cell? ⟨gb176, 1, none⟩ = some (.int .i64 a0_1) := (q9a BK176.out 1).trans rfl
    have hcz22_2 : wr.cell? ⟨gb176, 2, none⟩ = some (.int .i64 a0_2) := (q9a BK176.out 2).trans rfl
    have hcz22_3 : wr.cell? ⟨gb176, 3, none⟩ = some (.int .i64 a0_3) := (q9a BK176.out 3).trans rfl
    have hcz22_4 : wr.cell? ⟨gb176, 4, none⟩ = some (.int .i64 a0_4) := (q9a BK176.out 4).trans rfl
    have hcz22_5 : wr.cell? ⟨gb176, 5, none⟩ = some (.slice A0_5 l0_5.length c0_5) := (q9a BK176.out 5).trans rfl
    have hfz22_0 := zc BK176.out 0
    have hfz22_1 := zc BK176.out 1
    have hfz22_2 := zc BK176.out 2
    have hfz22_3 := zc BK176.out 3
    have hfz22_4 := zc BK176.out 4
    have hfz22_5 := zc BK176.out 5
    have p177 : 0 ≤ (x8_1 : Int) := zO
    have q177 : x8_1 < (l0_5.length : Int) := zO
    obtain ⟨ad177, e177, hx177_0, hx177_1, hx177_2, hx177_3, hx177_4⟩ := at_T38 HR0_5.out x8_1 p177 q177
    (try rw [← Nbq20.out] at hx177_4)
    cases e177
    replace hx177_0 := (HB.out.cell (zb w _ hx177_0)).trans hx177_0
    replace hx177_1 := (HB.out.cell (zb w _ hx177_1)).trans hx177_1
    replace hx177_2 := (HB.out.cell (zb w _ hx177_2)).trans hx177_2
    replace hx177_3 := (HB.out.cell (zb w _ hx177_3)).trans hx177_3
    replace hx177_4 := (HB.out.cell (zb w _ hx177_4)).trans hx177_4
    replace p177 := eq_true p177
    replace q177 := eq_true q177
    go_wp2_with (first | ((with_reducible refine gate_dst (N := 9) rfl ?_); refine box_event ?hg (N := 9) ?hd (cs := (zl5 (⟨#[]⟩ : ByteArray) 0 0 0 false)) (t := 38) ?hr ?_; (case hd => rfl); (case hg => rfl); (case hr => exact zH83); intro gb178 hg w23 hbox hb; have n_ := zA_ (za (zq (g := gb176) (o := .cells (zs6 a0_0 a0_1 a0_2 a0_3 a0_4 (.slice (some ad177) l0_5.length c0_5)) 29 (0, 0)) zG62 hb)) (zA_ (za (zr zG56 hb)) (zA_ (za (hbox)) (zA_ (zN1 w.heap.size hg (zp zG56)) (zA_ (zN1 w.heap.size hg (zp zG56)) (zN2 hg (zv (g := gb176) (o := .cells (zs6 a0_0 a0_1 a0_2 a0_3 a0_4 (.slice (some ad177) l0_5.length c0_5)) 29 (0, 0)) zG62)))))); clear BK176 HB; obtain ⟨BK176, HB, BK178, GW178, GE178, NB176_178, NB178_176⟩ := n_; clear hb hbox hg; have hnb24 := NB178_176.out; have hnc24 := NB176_178.out; have hcz25_0 : w23.cell? ⟨gb178, 0, none⟩ = some (.string (⟨#[]⟩ : ByteArray)) := (q9a BK178.out 0).trans rfl; have hcz25_1 : w23.cell? ⟨gb178, 1, none⟩ = some (.int .i64 0) := (q9a BK178.out 1).trans rfl; have hcz25_2 : w23.cell? ⟨gb178, 2, none⟩ = some (.int .i64 0) := (q9a BK178.out 2).trans rfl; have hcz25_3 : w23.cell? ⟨gb178, 3, none⟩ = some (.int .i64 0) := (q9a BK178.out 3).trans rfl; have hcz25_4 : w23.cell? ⟨gb178, 4, none⟩ = some (.bool false) := (q9a BK178.out 4).trans rfl; have hfz25_0 := zc BK178.out 0; have hfz25_1 := zc BK178.out 1; have hfz25_2 := zc BK178.out 2; have hfz25_3 := zc BK178.out 3; have hfz25_4 := zc BK178.out 4; have hcz26_0 : w23.cell? ⟨gb176, 0, none⟩ = some (.int .i64 a0_0) := (q9a BK176.out 0).trans rfl; have hcz26_1 : w23.cell? ⟨gb176, 1, none⟩ = some (.int .i64 a0_1) := (q9a BK176.out 1).trans rfl; have hcz26_2 : w23.cell? ⟨gb176, 2, none⟩ = some (.int .i64 a0_2) := (q9a BK176.out 2).trans rfl; have hcz26_3 : w23.cell? ⟨gb176, 3, none⟩ = some (.int .i64 a0_3) := (q9a BK176.out 3).trans rfl; have hcz26_4 : w23.cell? ⟨gb176, 4, none⟩ = some (.int .i64 a0_4) := (q9a BK176.out 4).trans rfl; have hcz26_5 : w23.cell? ⟨gb176, 5, none⟩ = some (.slice (some ad177) l0_5.length c0_5) := (q9a BK176.out 5).trans rfl; have hfz26_0 := zc BK176.out 0; have hfz26_1 := zc BK176.out 1; have hfz26_2 := zc BK176.out 2; have hfz26_3 := zc BK176.out 3; have hfz26_4 := zc BK176.out 4; have hfz26_5 := zc BK176.out 5))
    go_roundg k1
    case measure => have := HK1.out; omega
    case rel => exact ⟨(x7_1), (wrap64 (x8_1 + 1)), zG82, zG82, H', ⟨zH88⟩, ⟨zH0⟩, ⟨zH23⟩⟩
   replace c21 := Bool.eq_false_iff.mpr c21
   subst c21
   have H1 : (spec_l14Units.l0 k1 a1 a2 (wrap64 (x7_1 + ((rd_T38 l0_5 x8_1).f2))) (wrap64 (x8_1 + 1)) a0_0 a0_1 a0_2 a0_3 a0_4 l0_5) = some r := by rw [if_neg (show ¬ (false = true) by decide)] at H; exact H
   clear H
   have H := H1
   clear H1
   have H' := za H
   clear H
   have hcz27_0 : wr.cell? ⟨gb176, 0, none⟩ = some (.int .i64 a0_0) := (q9a BK176.out 0).trans rfl
   have hcz27_1 : wr.cell? ⟨gb176, 1, none⟩ = some (.int .i64 a0_1) := (q9a BK176.out 1).trans rfl
   have hcz27_2 : wr.cell? ⟨gb176, 2, none⟩ = some (.int .i64 a0_2) := (q9a BK176.out 2).trans rfl
   have hcz27_3 : wr.cell? ⟨gb176, 3, none⟩ = some (.int .i64 a0_3) := (q9a BK176.out 3).trans rfl
   have hcz27_4 : wr.cell? ⟨gb176, 4, none⟩ = some (.int .i64 a0_4) := (q9a BK176.out 4).trans rfl
   have hcz27_5 : wr.cell? ⟨gb176, 5, none⟩ = some (.slice A0_5 l0_5.length c0_5) := (q9a BK176.out 5).trans rfl
   have hfz27_0 := zc BK176.out 0
   have hfz27_1 := zc BK176.out 1
   have hfz27_2 := zc BK176.out 2
   have hfz27_3 := zc BK176.out 3
   have hfz27_4 := zc BK176.out 4
   have hfz27_5 := zc BK176.out 5
   have p177 : 0 ≤ (x8_1 : Int) := zO
   have q177 : x8_1 < (l0_5.length : Int) := zO
   obtain ⟨ad177, e177, hx177_0, hx177_1, hx177_2, hx177_3, hx177_4⟩ := at_T38 HR0_5.out x8_1 p177 q177
   (try rw [← Nbq20.out] at hx177_4)
   cases e177
   replace hx177_0 := (HB.out.cell (zb w _ hx177_0)).trans hx177_0
   replace hx177_1 := (HB.out.cell (zb w _ hx177_1)).trans hx177_1
   replace hx177_2 := (HB.out.cell (zb w _ hx177_2)).trans hx177_2
   replace hx177_3 := (HB.out.cell (zb w _ hx177_3)).trans hx177_3
   replace hx177_4 := (HB.out.cell (zb w _ hx177_4)).trans hx177_4
   replace p177 := eq_true p177
   replace q177 := eq_true q177
   go_wp2_with (first | ((with_reducible refine gate_dst (N := 9) rfl ?_); refine box_event ?hg (N := 9) ?hd (cs := (zl5 (⟨#[]⟩ : ByteArray) 0 0 0 false)) (t := 38) ?hr ?_; (case hd => rfl); (case hg => rfl); (case hr => exact zH83); intro gb178 hg w28 hbox hb; have n_ := zA_ (za (zq (g := gb176) (o := .cells (zs6 a0_0 a0_1 a0_2 a0_3 a0_4 (.slice (some ad177) l0_5.length c0_5)) 29 (0, 0)) zG62 hb)) (zA_ (za (zr zG56 hb)) (zA_ (za (hbox)) (zA_ (zN1 w.heap.size hg (zp zG56)) (zA_ (zN1 w.heap.size hg (zp zG56)) (zN2 hg (zv (g := gb176) (o := .cells (zs6 a0_0 a0_1 a0_2 a0_3 a0_4 (.slice (some ad177) l0_5.length c0_5)) 29 (0, 0)) zG62)))))); clear BK176 HB; obtain ⟨BK176, HB, BK178, GW178, GE178, NB176_178, NB178_176⟩ := n_; clear hb hbox hg; have hnb29 := NB178_176.out; have hnc29 := NB176_178.out; have hcz30_0 : w28.cell? ⟨gb178, 0, none⟩ = some (.string (⟨#[]⟩ : ByteArray)) := (q9a BK178.out 0).trans rfl; have hcz30_1 : w28.cell? ⟨gb178, 1, none⟩ = some (.int .i64 0) := (q9a BK178.out 1).trans rfl; have hcz30_2 : w28.cell? ⟨gb178, 2, none⟩ = some (.int .i64 0) := (q9a BK178.out 2).trans rfl; have hcz30_3 : w28.cell? ⟨gb178, 3, none⟩ = some (.int .i64 0) := (q9a BK178.out 3).trans rfl; have hcz30_4 : w28.cell? ⟨gb178, 4, none⟩ = some (.bool false) := (q9a BK178.out 4).trans rfl; have hfz30_0 := zc BK178.out 0; have hfz30_1 := zc BK178.out 1; have hfz30_2 := zc BK178.out 2; have hfz30_3 := zc BK178.out 3; have hfz30_4 := zc BK178.out 4; have hcz31_0 : w28.cell? ⟨gb176, 0, none⟩ = some (.int .i64 a0_0) := (q9a BK176.out 0).trans rfl; have hcz31_1 : w28.cell? ⟨gb176, 1, none⟩ = some (.int .i64 a0_1) := (q9a BK176.out 1).trans rfl; have hcz31_2 : w28.cell? ⟨gb176, 2, none⟩ = some (.int .i64 a0_2) := (q9a BK176.out 2).trans rfl; have hcz31_3 : w28.cell? ⟨gb176, 3, none⟩ = some (.int .i64 a0_3) := (q9a BK176.out 3).trans rfl; have hcz31_4 : w28.cell? ⟨gb176, 4, none⟩ = some (.int .i64 a0_4) := (q9a BK176.out 4).trans rfl; have hcz31_5 : w28.cell? ⟨gb176, 5, none⟩ = some (.slice (some ad177) l0_5.length c0_5) := (q9a BK176.out 5).trans rfl; have hfz31_0 := zc BK176.out 0; have hfz31_1 := zc BK176.out 1; have hfz31_2 := zc BK176.out 2; have hfz31_3 := zc BK176.out 3; have hfz31_4 := zc BK176.out 4; have hfz31_5 := zc BK176.out 5))
   go_roundg k1
   case measure => have := HK1.out; omega
   case rel => exact ⟨(wrap64 (x7_1 + ((rd_T38 l0_5 x8_1).f2))), (wrap64 (x8_1 + 1)), zG82, zG82, H', ⟨zH88⟩, ⟨zH0⟩, ⟨zH23⟩⟩
/-! ### spec_l14Drop: function 57 -/
def spec_l14Drop.f (l0 : List (S38)) (a1 : Int) : Option ((List (S38))) := (some (([] : List (S38)) : List (S38))).bind fun y179 => (if 0 ≤ a1 then (if a1 ≤ (l0.length : Int) then ((some (l0.take (a1 : Int).toNat : List (S38))).bind fun y182 => (if y179.length + y182.length < 2932031007402 then ((some (y179 ++ y182 : List (S38))).bind fun y186 => (if 0 ≤ (wrap64 (a1 + 1)) then (if (wrap64 (a1 + 1)) ≤ (l0.length : Int) then ((some (l0.drop ((wrap64 (a1 + 1)) : Int).toNat : List (S38))).bind fun y189 => (if y186.length + y189.length < 2932031007402 then (some (y186 ++ y189)) else (none))) else (none)) else (none))) else (none))) else (none)) else (none))
def spec_l14Drop.T1 : Bool × List (List Nat × List Nat) := (true, [([], []), ([], []), ([], []), ([1, 2], [1, 2]), ([0, 3], [0, 3]), ([], []), ([], []), ([6], [6]), ([5, 7], [5, 7]), ([4, 8, 4], [4, 8]), ([9, 9, 0, 1, 2, 3, 4, 5, 6, 7, 8, 9], [9])])
def spec_l14Drop.B1 : List Nat := [0, 0, 0, 6, 15, 0, 0, 64, 224, 511, 1023]
theorem spec_l14Drop.tab1 : rtab .any (opsOf Try.f57 1) = spec_l14Drop.T1 := by kernel_rfl
theorem spec_l14Drop.bits1 : waitsOk spec_l14Drop.T1.2 spec_l14Drop.B1 = true := by kernel_rfl
set_option maxHeartbeats 64000000 in
set_option maxRecDepth 100000 in
theorem spec_l14Drop.calls (A0 : Option Addr) (c0 : Nat) (l0 : List (S38)) (a1 : Int) (r : List (S38)) (w : World) (hr0 : Kd.C k38 w A0 l0.length l0) (hc0 : l0.length ≤ c0) (h : spec_l14Drop.f l0 a1 = some r) :
  Calls Try.prog 57 #[.slice A0 l0.length c0, .int .i64 a1] w fun e w' => ∃ v0_ : Value, e = .returned (v0_) ∧ Kd.R k38 38 w' w.heap.size (fun _ => True) v0_ r ∧ Below w.heap.size w w' := by
 obtain ⟨HR0, HC0, HB⟩ := zD3 hr0 hc0 (Below.refl w.heap.size w)
 clear hr0 hc0
 have H : ((some (([] : List (S38)) : List (S38))).bind fun y179 => (if 0 ≤ a1 then (if a1 ≤ (l0.length : Int) then ((some (l0.take (a1 : Int).toNat : List (S38))).bind fun y182 => (if y179.length + y182.length < 2932031007402 then ((some (y179 ++ y182 : List (S38))).bind fun y186 => (if 0 ≤ (wrap64 (a1 + 1)) then (if (wrap64 (a1 + 1)) ≤ (l0.length : Int) then ((some (l0.drop ((wrap64 (a1 + 1)) : Int).toNat : List (S38))).bind fun y189 => (if y186.length + y189.length < 2932031007402 then (some (y186 ++ y189)) else (none))) else (none)) else (none))) else (none))) else (none)) else (none))) = some r := h
 clear h
 obtain ⟨y179, hy179⟩ : ∃ y_ : List (S38), y_ = (([] : List (S38))) := ⟨_, rfl⟩
 replace H : (if 0 ≤ a1 then (if a1 ≤ (l0.length : Int) then ((some (l0.take (a1 : Int).toNat : List (S38))).bind fun y182 => (if y179.length + y182.length < 2932031007402 then ((some (y179 ++ y182 : List (S38))).bind fun y186 => (if 0 ≤ (wrap64 (a1 + 1)) then (if (wrap64 (a1 + 1)) ≤ (l0.length : Int) then ((some (l0.drop ((wrap64 (a1 + 1)) : Int).toNat : List (S38))).bind fun y189 => (if y186.length + y189.length < 2932031007402 then (some (y186 ++ y189)) else (none))) else (none)) else (none))) else (none))) else (none)) else (none)) = some r := by first | (rw [hy179]; with_reducible exact H) | (have H2_ := (Option.bind_some _ _).symm.trans H; rw [hy179]; with_reducible exact H2_) | (have H2_ := (Option.bind_some _ _).symm.trans H; with_reducible exact H2_) | with_reducible exact H | (rw [hy179]; exact H) | exact H
 have Ny179 := za hy179
 clear hy179
 by_cases c3 : 0 ≤ a1
 rotate_left
 ·rw [if_neg c3] at H
  exact absurd H (by simp)

 rw [if_pos c3] at H
 have c3b0 := eq_true c3
 have c3b1 := decide_eq_true c3
 clear c3
 by_cases c4 : a1 ≤ (l0.length : Int)
 rotate_left
 ·rw [if_neg c4] at H
  exact absurd H (by simp)
 rw [if_pos c4] at H
 have c4b0 := eq_true c4
 have c4b1 := decide_eq_true c4
 clear c4
 obtain ⟨y182, hy182⟩ : ∃ y_ : List (S38), y_ = (l0.take (a1 : Int).toNat) := ⟨_, rfl⟩
 replace H : (if y179.length + y182.length < 2932031007402 then ((some (y179 ++ y182 : List (S38))).bind fun y186 => (if 0 ≤ (wrap64 (a1 + 1)) then (if (wrap64 (a1 + 1)) ≤ (l0.length : Int) then ((some (l0.drop ((wrap64 (a1 + 1)) : Int).toNat : List (S38))).bind fun y189 => (if y186.length + y189.length < 2932031007402 then (some (y186 ++ y189)) else (none))) else (none)) else (none))) else (none)) = some r := by first | (rw [hy182]; with_reducible exact H) | (have H2_ := (Option.bind_some _ _).symm.trans H; rw [hy182]; with_reducible exact H2_) | (have H2_ := (Option.bind_some _ _).symm.trans H; with_reducible exact H2_) | with_reducible exact H | (rw [hy182]; exact H) | exact H
 have Ny182 := za hy182
 clear hy182
 by_cases c5 : y179.length + y182.length < 2932031007402
 rotate_left
 ·rw [if_neg c5] at H
  exact absurd H (by simp)
 rw [if_pos c5] at H
 have LMc5 := za c5
 clear c5
 obtain ⟨y186, hy186⟩ : ∃ y_ : List (S38), y_ = (y179 ++ y182) := ⟨_, rfl⟩
 replace H : (if 0 ≤ (wrap64 (a1 + 1)) then (if (wrap64 (a1 + 1)) ≤ (l0.length : Int) then ((some (l0.drop ((wrap64 (a1 + 1)) : Int).toNat : List (S38))).bind fun y189 => (if y186.length + y189.length < 2932031007402 then (some (y186 ++ y189)) else (none))) else (none)) else (none)) = some r := by first | (rw [hy186]; with_reducible exact H) | (have H2_ := (Option.bind_some _ _).symm.trans H; rw [hy186]; with_reducible exact H2_) | (have H2_ := (Option.bind_some _ _).symm.trans H; with_reducible exact H2_) | with_reducible exact H | (rw [hy186]; exact H) | exact H
 have Ny186 := za hy186
 clear hy186
 obtain ⟨ji6, hji6⟩ : ∃ j_ : Int, (wrap64 (a1 + 1)) = j_ := ⟨_, rfl⟩
 replace H : (if 0 ≤ (ji6) then (if (ji6) ≤ (l0.length : Int) then ((some (l0.drop ((ji6) : Int).toNat : List (S38))).bind fun y189 => (if y186.length + y189.length < 2932031007402 then (some (y186 ++ y189)) else (none))) else (none)) else (none)) = some r := by first | (rw [hji6] at H; exact H) | (simp only [hji6] at H ⊢; exact H)
 have hji6w : (IntKind.i64.wrap (a1 + 1)) = ji6 := (i64_w _).trans hji6
 by_cases c7 : 0 ≤ (ji6)
 rotate_left
 ·rw [if_neg c7] at H
  exact absurd H (by simp)
 rw [if_pos c7] at H
 have c7b0 := eq_true c7
 have c7b1 := decide_eq_true c7
 clear c7
 by_cases c8 : (ji6) ≤ (l0.length : Int)
 rotate_left
 ·rw [if_neg c8] at H
  exact absurd H (by simp)
 rw [if_pos c8] at H
 have c8b0 := eq_true c8
 have c8b1 := decide_eq_true c8
 clear c8
 obtain ⟨y189, hy189⟩ : ∃ y_ : List (S38), y_ = (l0.drop ((ji6) : Int).toNat) := ⟨_, rfl⟩
 replace H : (if y186.length + y189.length < 2932031007402 then (some (y186 ++ y189)) else (none)) = some r := by first | (rw [hy189]; with_reducible exact H) | (have H2_ := (Option.bind_some _ _).symm.trans H; rw [hy189]; with_reducible exact H2_) | (have H2_ := (Option.bind_some _ _).symm.trans H; with_reducible exact H2_) | with_reducible exact H | (rw [hy189]; exact H) | exact H
 have Ny189 := za hy189
 clear hy189
 by_cases c9 : y186.length + y189.length < 2932031007402
 rotate_left
 ·rw [if_neg c9] at H
  exact absurd H (by simp)
 rw [if_pos c9] at H
 have LMc9 := za c9
 clear c9
 obtain ⟨y193, hy193⟩ : ∃ y_ : List (S38), y_ = (y186 ++ y189) := ⟨_, rfl⟩
 replace H : (some y193) = some r := by first | (rw [hy193]; with_reducible exact H) | (have H2_ := (Option.bind_some _ _).symm.trans H; rw [hy193]; with_reducible exact H2_) | (have H2_ := (Option.bind_some _ _).symm.trans H; with_reducible exact H2_) | with_reducible exact H | (rw [hy193]; exact H) | exact H
 have Ny193 := za hy193
 clear hy193
 obtain rfl := Option.some.inj H
 go_enter Try.func57, Try.ntmps57
 try go_wp2
 have n0_ := za (zh HB.out)
 clear HB
 have HB := n0_
 clear n0_
 have q11 : (a1 : Int) ≤ ((l0.length : Int) : Int) := zO
 obtain ⟨i011, hi011, _, hsz11, _⟩ := info_parts info38
 have hroom11 : l0.length ≤ c0 := HC0.out
 have hC11 : Kd.C k38 _ A0 l0.length l0 := HR0.out
 have hcut11 := cut_to (P := Try.prog) 27 38 .i64 Try.underlying27 hi011 A0 l0.length c0 a1 zO q11 hroom11
 have hr11 := Kd.C_take (m := (a1 : Int).toNat) hC11 (by omega)
 have hy11 : y182.length = (a1 : Int).toNat := (by rw [Ny182.out, List.length_take]; omega)
 rw [← Ny182.out] at hr11
 rw [← hy11] at hcut11
 obtain ⟨HR185, HC185, KY11⟩ := zD3 hr11 (show y182.length ≤ c0 from by omega) hy11
 clear hr11 hC11 hroom11 hi011 hsz11 hy11
 replace q11 := eq_true q11
 have q12 : ((ji6) : Int) ≤ ((l0.length : Int) : Int) := zO
 obtain ⟨i012, hi012, _, hsz12, _⟩ := info_parts info38
 have hroom12 : l0.length ≤ c0 := HC0.out
 have hC12 : Kd.C k38 _ A0 l0.length l0 := HR0.out
 have q012 : (0 : Int) ≤ ((ji6) : Int) := zO
 have hcut12 := cut_from (P := Try.prog) 27 38 .i64 Try.underlying27 hi012 5 hsz12 A0 l0.length c0 (ji6) q012 q12
 have hr12 := Kd.C_drop (m := ((ji6) : Int).toNat) (c := c0) hC12 (by omega) hroom12
 obtain ⟨A12, hA12⟩ : ∃ A1, A1 = (if c0 = ((ji6) : Int).toNat then A0 else (A0 : Option Addr).map (·.add (((ji6) : Int).toNat * 5))) := ⟨_, rfl⟩
 obtain ⟨c12, hc12⟩ : ∃ c1, c1 = c0 - ((ji6) : Int).toNat := ⟨_, rfl⟩
 have hy12 : y189.length = l0.length - ((ji6) : Int).toNat := (by rw [Ny189.out, List.length_drop] <;> omega)
 rw [show (l0).drop ((ji6) : Int).toNat = y189 from Ny189.out.symm] at hr12
 replace hr12 : Kd.C k38 _ A12 y189.length y189 := (by rw [hA12]; exact hr12)
 rw [← hy12, ← hA12, ← hc12] at hcut12
 obtain ⟨HR192, HC192, KY12, KA12⟩ := zD4 hr12 (show y189.length ≤ c12 from by rw [hy12, hc12]; exact Nat.sub_le_sub_right hroom12 _) hy12 hA12
 clear hr12 hC12 hroom12 hi012 hsz12 hc12 hy12 hA12
 replace q12 := eq_true q12
 refine start_ (n := 11) (S := fun w' => True) (ds := []) #[false, false, false, false, false, false, false, false, false, false, false] zG83 rfl rfl trivial (fun hHeld => ?_); refine with_tabW spec_l14Drop.tab1 spec_l14Drop.bits1 (fun HT_ HW_ => ?_)
 generalize w.drew = w10 at HB HR185 HR192 hHeld ⊢
 refine zP 1 6 #[false, true, false, false, false, false, false, false, false, false, false] HT_ ?_
 refine zP 2 7 #[false, true, true, false, false, false, false, false, false, false, false] HT_ ?_
 refine zP 3 8 #[false, true, true, true, false, false, false, false, false, false, false] HT_ ?_
 refine zP 5 10 #[false, true, true, true, false, true, false, false, false, false, false] HT_ ?_
 refine zP 6 11 #[false, true, true, true, false, true, true, false, false, false, false] HT_ ?_
 refine zP 7 12 #[false, true, true, true, false, true, true, true, false, false, false] HT_ ?_
 refine zP 8 13 #[false, true, true, true, false, true, true, true, true, false, false] HT_ ?_
 refine one_ (i := 0) (N := some 5) #[true, true, true, true, false, true, true, true, true, false, false] rfl rfl (one_of HT_.out zG83) zG84 (fun K hK => ?_)
 refine Kd.R_lit_step k38 _ 38 ?hg (N := 5) ?hd (xs := ([] : List (S38))) (inner := []) (ok := fun _ => True) (okp := fun _ => True) ?hr ?hp (fun _ hk => hk) trivial (Below.refl _ _) (Nat.le_refl _) (by simp) ?_; (case hd => rfl); (case hg => rfl); (case hr => exact zH83); (case hp => exact (Reps.none _ _))
 intro v180 w13 ho14 hb hg_ hnew_
 clear hg_ hnew_
 (first | rw [← Ny179.out] at ho14 | (simp only [Int.reduceToNat] at ho14; rw [← Ny179.out] at ho14))
 obtain ⟨n0_, n1_⟩ := zD2 (zai ho14 (zp zG60)) (zr zG60 hb)
 clear HB
 have HO181 := n0_
 have HB := n1_
 clear n0_ n1_
 clear hb ho14
 refine hK.out _ _ trivial (fun hHeld => ?_)
 clear hK K
 refine norm_ (a' := ?_) ?_ ?_
 rotate_left
 ·show Act.put _ (some 5) _ = _
  simp only [Act.put, List.setIfInBounds_toArray, List.set_cons_zero, List.set_cons_succ, i64_w, i32_w]
  rfl
 refine one_ (i := 4) (N := some 9) #[true, true, true, true, true, true, true, true, true, false, false] rfl rfl (one_of HT_.out zG83) zG84 (fun K hK => ?_)
 refine Kd.R_append_rows_step k38 (w0 := w) w.heap.size (by rfl) (.tmp 5) (.tmp 8) 27 38 (.agg #[(.string ⟨#[]⟩), (.int .i64 0), (.int .i64 0), (.int .i64 0), (.bool false)]) 48 rfl Try.underlying27 info38 rfl zG84 (by omega) v180 y179 y182 _ _ _ (fun _ => True) (fun _ => False) rfl rfl ?aO ?aR (fun _ _ h => h) (fun _ h => h.elim) ?aF ?aB ?aS ?aL ?_
 (case aR => repeat (first | exact (zak HR185.out HB.out) | (with_reducible refine zy ?_ _) | (with_reducible refine zz ?_ _) | (with_reducible refine zaa ?_)))
 (case aB => exact zG60)
 (case aF => exact (fun _ _ => trivial))
 (case aO => exact (by (with_reducible repeat (first | apply zk | apply zl | apply zn)); exact HO181.out))
 (case aS => exact (zp zG60))
 (case aL => have := LMc5.out; omega)
 intro v187 w15 ho hb hg hat
 rw [← Ny186.out] at ho
 obtain ⟨n0_, n1_⟩ := zD2 (hb) (ho)
 clear HB HO181
 have HB := n0_
 have HO188 := n1_
 clear n0_ n1_
 clear ho hb hg hat
 refine hK.out _ _ trivial (fun hHeld => ?_)
 clear hK K
 refine norm_ (a' := ?_) ?_ ?_
 rotate_left
 ·show Act.put _ (some 9) _ = _
  simp only [Act.put, List.setIfInBounds_toArray, List.set_cons_zero, List.set_cons_succ, i64_w, i32_w]
  rfl
 refine one_ (i := 9) (N := some 14) #[true, true, true, true, true, true, true, true, true, true, false] rfl rfl (one_of HT_.out zG83) zG84 (fun K hK => ?_)
 refine Kd.R_append_rows_step k38 (w0 := w) w.heap.size (by rfl) (.tmp 9) (.tmp 13) 27 38 (.agg #[(.string ⟨#[]⟩), (.int .i64 0), (.int .i64 0), (.int .i64 0), (.bool false)]) 48 rfl Try.underlying27 info38 rfl zG84 (by omega) v187 y186 y189 _ _ _ (fun _ => True) (fun _ => False) rfl rfl ?aO ?aR (fun _ _ h => h) (fun _ h => h.elim) ?aF ?aB ?aS ?aL ?_
 (case aR => repeat (first | exact (zak HR192.out HB.out) | (with_reducible refine zy ?_ _) | (with_reducible refine zz ?_ _) | (with_reducible refine zaa ?_)))
 (case aB => exact zG60)
 (case aF => exact (fun _ _ => trivial))
 (case aO => exact (by (with_reducible repeat (first | apply zk | apply zl | apply zn)); exact HO188.out))
 (case aS => exact (zp zG60))
 (case aL => have := LMc9.out; omega)
 intro v194 w16 ho hb hg hat
 rw [← Ny193.out] at ho
 obtain ⟨n0_, n1_⟩ := zD2 (hb) (ho)
 clear HB HO188
 have HB := n0_
 have HO195 := n1_
 clear n0_ n1_
 clear ho hb hg hat
 refine hK.out _ _ trivial (fun hHeld => ?_)
 clear hK K
 refine norm_ (a' := ?_) ?_ ?_
 rotate_left
 ·show Act.put _ (some 14) _ = _
  simp only [Act.put, List.setIfInBounds_toArray, List.set_cons_zero, List.set_cons_succ, i64_w, i32_w]
  rfl
 refine zP 10 4 #[true, true, true, true, true, true, true, true, true, true, true] HT_ ?_
 refine done_ (done_of HT_.out zG83) ?_
 try go_wp2
 go_ret
 exact ⟨_, by first | rfl | (simp [errW_none, errW_some] <;> rfl) | (simp only [← hji6]; first | rfl | (simp [errW_none, errW_some] <;> rfl)) | (simp [*, errW_none, errW_some] <;> rfl), by (with_reducible repeat (first | apply zk | apply zl | apply zn)); exact HO195.out, zH60⟩
end Go.Proofs.Ytnkceaibkfbeaaa.E
