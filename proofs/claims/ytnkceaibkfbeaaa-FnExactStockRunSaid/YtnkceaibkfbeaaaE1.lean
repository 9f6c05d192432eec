-- squeezed
-- made by pp.py (wip/tools) out of the translation; Lean checks it
import Derived.Test.YtnkceaibkfbeaaaE0
namespace Go.Proofs.Ytnkceaibkfbeaaa.E
open Go.RowKit Go.Proofs.YtnkceaibkfbeaaaW.PrintWords Go.Proofs.YtnkceaibkfbeaaaW.PrintLast Go.Proofs.YtnkceaibkfbeaaaW.PrintMore
attribute [local go_sem] max2_int min2_int max_two min_two max_three min_three max_four min_four   -- for this text's walks alone
set_option linter.unusedVariables false
set_option linter.unusedSimpArgs false
abbrev zwd (a : ByteArray) : Int := Go.bits .or .i64 (wrap64 ((wrap64 (Go.bits .and .u8 (bt a 0) 31)) * 64)) (wrap64 (Go.bits .and .u8 (bt a 1) 63))

abbrev q1a := @blk_cell
/-! ### impl_StockAct: function 23 -/
def impl_StockAct.f (l0 : List (S34)) : Option (Bool) := some (decide ((l0.length : Int) ≤ 4096))
set_option maxHeartbeats 64000000 in
set_option maxRecDepth 100000 in
theorem impl_StockAct.calls (A0 : Option Addr) (c0 : Nat) (l0 : List (S34)) (r : Bool) (w : World) (hr0 : Kd.C k34 w A0 l0.length l0) (hc0 : l0.length ≤ c0) (h : impl_StockAct.f l0 = some r) :
  Calls Try.prog 23 #[.slice A0 l0.length c0] w fun e w' => e = .returned (.bool r) ∧ Drawn0 w w' := by
 obtain ⟨HR0, HC0⟩ := zD2 hr0 hc0
 clear hr0 hc0
 have H : (some (decide ((l0.length : Int) ≤ 4096))) = some r := h
 clear h
 obtain rfl := Option.some.inj H
 go_enter Try.func23, Try.ntmps23
 go_wp2
 go_ret
 exact zH49

/-! ### impl_Stock_lotAt_1: function 62 -/
def impl_Stock_lotAt_1.f (a0_0 : ByteArray) (a0_1 : Int) (a0_2 : Int) (a0_3 : Int) (a0_4 : Bool) (a1_0 : ByteArray) (a2_0 : Int) : Option (Bool) := if a0_0.toList = a1_0.toList then (some (a0_1 == a2_0)) else (some false)
set_option maxHeartbeats 64000000 in
set_option maxRecDepth 100000 in
theorem impl_Stock_lotAt_1.calls (a0_0 : ByteArray) (a0_1 : Int) (a0_2 : Int) (a0_3 : Int) (a0_4 : Bool) (gc1_0 : Nat) (a1_0 : ByteArray) (gc2_0 : Nat) (a2_0 : Int) (r : Bool) (w : World) (hk1_0 : w.heap[gc1_0]? = some (.cells #[.string a1_0] 9 (0, 0))) (hk2_0 : w.heap[gc2_0]? = some (.cells #[.int .i64 a2_0] 3 (0, 0))) (h : impl_Stock_lotAt_1.f a0_0 a0_1 a0_2 a0_3 a0_4 a1_0 a2_0 = some r) :
  Calls Try.prog 62 #[.agg (zl5 a0_0 a0_1 a0_2 a0_3 a0_4), .pointer (some ⟨gc1_0, 0, none⟩), .pointer (some ⟨gc2_0, 0, none⟩)] w fun e w' => e = .returned (.bool r) ∧ Below w.heap.size w w' := by
 have hu38 := Try.underlying38
 obtain ⟨BK1, BK2, HB⟩ := zD3 hk1_0 hk2_0 (Below.refl w.heap.size w)
 clear hk1_0 hk2_0
 have H : (if a0_0.toList = a1_0.toList then (some (a0_1 == a2_0)) else (some false)) = some r := h
 clear h
 by_cases c4 : a0_0.toList = a1_0.toList
 rotate_left
 ·rw [if_neg c4] at H
  have c4b0 : (a0_0.toList == a1_0.toList) = false := beq_eq_false_iff_ne.mpr c4
  have c4b1 : (a0_0.toList != a1_0.toList) = true := bne_iff_ne.mpr c4
  obtain rfl := Option.some.inj H
  go_enter Try.func62, Try.ntmps62
  go_wp2_with (first | ((with_reducible refine gate_dst (N := 3) rfl ?_); refine box_event ?hg (N := 3) ?hd (cs := (zl5 a0_0 a0_1 a0_2 a0_3 a0_4)) (t := 38) ?hr ?_; (case hd => rfl); (case hg => rfl); (case hr => exact zH83); intro gb101 hg w11 hbox hb; have n_ := zA_ (za (zq (g := gc1_0) (o := .cells #[.string a1_0] 9 (0, 0)) zK162 hb)) (zA_ (za (zq (g := gc2_0) (o := .cells #[.int .i64 a2_0] 3 (0, 0)) zK163 hb)) (zA_ (za (zr zK145 hb)) (zA_ (za (hbox)) (zA_ (zN1 w.heap.size hg (zp zK145)) (zA_ (zN1 w.heap.size hg (zp zK145)) (zN3 hg (zv (g := gc1_0) (o := .cells #[.string a1_0] 9 (0, 0)) zK162) (zN2 hg (zv (g := gc2_0) (o := .cells #[.int .i64 a2_0] 3 (0, 0)) zK163)))))))); clear BK1 BK2 HB; obtain ⟨BK1, BK2, HB, BK101, GW101, GE101, NB1_101, NB101_1, NB2_101, NB101_2⟩ := n_; clear hb hbox hg; have hnb12 := NB101_1.out; have hnc12 := NB1_101.out; have hnb13 := NB101_2.out; have hnc13 := NB2_101.out; have hcz14_0 : w11.cell? ⟨gb101, 0, none⟩ = some (.string a0_0) := (q1a BK101.out 0).trans rfl; have hcz14_1 : w11.cell? ⟨gb101, 1, none⟩ = some (.int .i64 a0_1) := (q1a BK101.out 1).trans rfl; have hcz14_2 : w11.cell? ⟨gb101, 2, none⟩ = some (.int .i64 a0_2) := (q1a BK101.out 2).trans rfl; have hcz14_3 : w11.cell? ⟨gb101, 3, none⟩ = some (.int .i64 a0_3) := (q1a BK101.out 3).trans rfl; have hcz14_4 : w11.cell? ⟨gb101, 4, none⟩ = some (.bool a0_4) := (q1a BK101.out 4).trans rfl; have hfz14_0 := zc BK101.out 0; have hfz14_1 := zc BK101.out 1; have hfz14_2 := zc BK101.out 2; have hfz14_3 := zc BK101.out 3; have hfz14_4 := zc BK101.out 4; have hcz15_0 : w11.cell? ⟨gc1_0, 0, none⟩ = some (.string a1_0) := (q1a BK1.out 0).trans rfl; have hfz15_0 := zc BK1.out 0))
  go_ret
  exact zH4

 rw [if_pos c4] at H
 have c4b0 : (a0_0.toList == a1_0.toList) = true := beq_iff_eq.mpr c4
 have c4b1 : (a0_0.toList != a1_0.toList) = false := bne_eq_false_iff_eq.mpr c4
 clear c4
 obtain rfl := Option.some.inj H
 go_enter Try.func62, Try.ntmps62
 go_wp2_with (first | ((with_reducible refine gate_dst (N := 3) rfl ?_); refine box_event ?hg (N := 3) ?hd (cs := (zl5 a0_0 a0_1 a0_2 a0_3 a0_4)) (t := 38) ?hr ?_; (case hd => rfl); (case hg => rfl); (case hr => exact zH83); intro gb101 hg w5 hbox hb; have n_ := zA_ (za (zq (g := gc1_0) (o := .cells #[.string a1_0] 9 (0, 0)) zK162 hb)) (zA_ (za (zq (g := gc2_0) (o := .cells #[.int .i64 a2_0] 3 (0, 0)) zK163 hb)) (zA_ (za (zr zK145 hb)) (zA_ (za (hbox)) (zA_ (zN1 w.heap.size hg (zp zK145)) (zA_ (zN1 w.heap.size hg (zp zK145)) (zN3 hg (zv (g := gc1_0) (o := .cells #[.string a1_0] 9 (0, 0)) zK162) (zN2 hg (zv (g := gc2_0) (o := .cells #[.int .i64 a2_0] 3 (0, 0)) zK163)))))))); clear BK1 BK2 HB; obtain ⟨BK1, BK2, HB, BK101, GW101, GE101, NB1_101, NB101_1, NB2_101, NB101_2⟩ := n_; clear hb hbox hg; have hnb6 := NB101_1.out; have hnc6 := NB1_101.out; have hnb7 := NB101_2.out; have hnc7 := NB2_101.out; have hcz8_0 : w5.cell? ⟨gb101, 0, none⟩ = some (.string a0_0) := (q1a BK101.out 0).trans rfl; have hcz8_1 : w5.cell? ⟨gb101, 1, none⟩ = some (.int .i64 a0_1) := (q1a BK101.out 1).trans rfl; have hcz8_2 : w5.cell? ⟨gb101, 2, none⟩ = some (.int .i64 a0_2) := (q1a BK101.out 2).trans rfl; have hcz8_3 : w5.cell? ⟨gb101, 3, none⟩ = some (.int .i64 a0_3) := (q1a BK101.out 3).trans rfl; have hcz8_4 : w5.cell? ⟨gb101, 4, none⟩ = some (.bool a0_4) := (q1a BK101.out 4).trans rfl; have hfz8_0 := zc BK101.out 0; have hfz8_1 := zc BK101.out 1; have hfz8_2 := zc BK101.out 2; have hfz8_3 := zc BK101.out 3; have hfz8_4 := zc BK101.out 4; have hcz9_0 : w5.cell? ⟨gc1_0, 0, none⟩ = some (.string a1_0) := (q1a BK1.out 0).trans rfl; have hfz9_0 := zc BK1.out 0; have hcz10_0 : w5.cell? ⟨gc2_0, 0, none⟩ = some (.int .i64 a2_0) := (q1a BK2.out 0).trans rfl; have hfz10_0 := zc BK2.out 0))
 go_ret
 exact zH4
/-! ### slices_IndexFunc_at_impl_Stock_lotAt_1: function 500000 -/
def slices_IndexFunc_at_impl_Stock_lotAt_1.l0 : Nat → List (S38) → Int → Int → ByteArray → Int → Option (Int)
 | 0, _, _, _, _, _ => none
 | k + 1, x0, x7, x8, x29000, x30000 => if x8 < x7 then (if 0 ≤ x8 then (if x8 < (x0.length : Int) then ((impl_Stock_lotAt_1.f ((rd_T38 x0 x8).f0) ((rd_T38 x0 x8).f1) ((rd_T38 x0 x8).f2) ((rd_T38 x0 x8).f3) ((rd_T38 x0 x8).f4) x29000 x30000).bind fun t103 => (if t103 = true then (some x8) else (slices_IndexFunc_at_impl_Stock_lotAt_1.l0 k x0 x7 (wrap64 (x8 + 1)) x29000 x30000))) else (none)) else (none)) else (some (-1))
def slices_IndexFunc_at_impl_Stock_lotAt_1.f (k : Nat) (l0 : List (S38)) (a1_0 : ByteArray) (a1_1 : Int) : Option (Int) := slices_IndexFunc_at_impl_Stock_lotAt_1.l0 k l0 (l0.length : Int) 0 a1_0 a1_1
theorem slices_IndexFunc_at_impl_Stock_lotAt_1.mono_l : ∀ k, (∀ y0 y1 y2 y3 y4, LeO (slices_IndexFunc_at_impl_Stock_lotAt_1.l0 k y0 y1 y2 y3 y4) (slices_IndexFunc_at_impl_Stock_lotAt_1.l0 (k + 1) y0 y1 y2 y3 y4))
 | 0 => fun _ _ _ _ _ r h => by simp [slices_IndexFunc_at_impl_Stock_lotAt_1.l0] at h
 | k + 1 => by
  have ih0 := slices_IndexFunc_at_impl_Stock_lotAt_1.mono_l k
  ·intro y0 y1 y2 y3 y4
   unfold slices_IndexFunc_at_impl_Stock_lotAt_1.l0
   repeat' first
   | (with_reducible exact ih0 _ _ _ _ _)
   | (with_reducible exact LeO.refl _)
   | (with_reducible exact LeO.none _)
   | (with_reducible refine LeO.ite ?_ ?_)
   | (with_reducible refine LeO.bind ?_ (fun _ => ?_))
   | exact ih0 _ _ _ _ _
   | exact LeO.none _
   | refine LeO.ite ?_ ?_
   | refine LeO.bind ?_ (fun _ => ?_)
theorem slices_IndexFunc_at_impl_Stock_lotAt_1.mono : ∀ a0 a1 a2 k, LeO (slices_IndexFunc_at_impl_Stock_lotAt_1.f k a0 a1 a2) (slices_IndexFunc_at_impl_Stock_lotAt_1.f (k + 1) a0 a1 a2) := by
 intro a0 a1 a2 k
 have ih0 := slices_IndexFunc_at_impl_Stock_lotAt_1.mono_l k
 unfold slices_IndexFunc_at_impl_Stock_lotAt_1.f
 repeat' first
   | (with_reducible exact ih0 _ _ _ _ _)
   | (with_reducible exact LeO.refl _)
   | (with_reducible exact LeO.none _)
   | (with_reducible refine LeO.ite ?_ ?_)
   | (with_reducible refine LeO.bind ?_ (fun _ => ?_))
   | exact ih0 _ _ _ _ _
   | exact LeO.none _
   | refine LeO.ite ?_ ?_
   | refine LeO.bind ?_ (fun _ => ?_)
set_option maxHeartbeats 64000000 in
set_option maxRecDepth 100000 in
theorem slices_IndexFunc_at_impl_Stock_lotAt_1.calls (k : Nat) (A0 : Option Addr) (c0 : Nat) (l0 : List (S38)) (gc1_0 : Nat) (a1_0 : ByteArray) (gc1_1 : Nat) (a1_1 : Int) (r : Int) (w : World) (hr0 : Kd.C k38 w A0 l0.length l0) (hc0 : l0.length ≤ c0) (hk1_0 : w.heap[gc1_0]? = some (.cells #[.string a1_0] 9 (0, 0))) (hk1_1 : w.heap[gc1_1]? = some (.cells #[.int .i64 a1_1] 3 (0, 0))) (h : slices_IndexFunc_at_impl_Stock_lotAt_1.f k l0 a1_0 a1_1 = some r) :
  Calls Try.prog 61 #[.slice A0 l0.length c0, .func (.func 62) #[] #[.pointer (some ⟨gc1_0, 0, none⟩), .pointer (some ⟨gc1_1, 0, none⟩)]] w fun e w' => e = .returned (.int .i64 r) ∧ Below w.heap.size w w' := by
 have hu38 := Try.underlying38
 obtain ⟨HR0, HC0, BK28, BK29, HB⟩ := zD5 hr0 hc0 hk1_0 hk1_1 (Below.refl w.heap.size w)
 clear hr0 hc0 hk1_0 hk1_1
 have H : (slices_IndexFunc_at_impl_Stock_lotAt_1.l0 k l0 (l0.length : Int) 0 a1_0 a1_1) = some r := h
 clear h
 have H' := za H
 clear H
 go_enter Try.func61, Try.ntmps61
 go_wp2
 go_loopg [8] k (fun kq v8 w' => ∃ (x8_1 : Int), v8 = .int .i64 x8_1 ∧ Aside0 (slices_IndexFunc_at_impl_Stock_lotAt_1.l0 kq l0 (l0.length : Int) x8_1 a1_0 a1_1 = some r) ∧ Aside0 (kq ≤ k) ∧ Aside0 (w'.heap[gc1_0]? = some (.cells #[.string a1_0] 9 (0, 0))) ∧ Aside0 (w'.heap[gc1_1]? = some (.cells #[.int .i64 a1_1] 3 (0, 0))) ∧ Aside0 (Below w.heap.size w w'))
 case atStart => exact ⟨(0), zG82, H', ⟨Nat.le_refl _⟩, ⟨by (with_reducible repeat (first | refine zf ?_ _ | refine zg ?_ | refine ze ?_ _)); exact BK28.out⟩, ⟨by (with_reducible repeat (first | refine zf ?_ _ | refine zg ?_ | refine ze ?_ _)); exact BK29.out⟩, ⟨zH29⟩⟩
 case round =>
  clear H'
  obtain ⟨x8_1, rfl, HA, HK1, BK28, BK29, HB⟩ := hrel
  cases gk with
  | zero => exact absurd HA.out (by simp [slices_IndexFunc_at_impl_Stock_lotAt_1.l0])
  | succ k1 =>
   have H := HA.out
   clear HA
   simp only [slices_IndexFunc_at_impl_Stock_lotAt_1.l0] at H
   by_cases c3 : x8_1 < (l0.length : Int)
   rotate_left
   ·rw [if_neg c3] at H
    have c3b0 := decide_eq_false c3
    clear c3
    obtain rfl := Option.some.inj H
    go_wp2
    go_ret
    exact zH11

   rw [if_pos c3] at H
   have c3b0 := decide_eq_true c3
   clear c3
   by_cases c4 : 0 ≤ x8_1
   rotate_left
   ·rw [if_neg c4] at H
    exact absurd H (by simp)
   rw [if_pos c4] at H
   have c4b0 := decide_eq_true c4
   clear c4
   by_cases c5 : x8_1 < (l0.length : Int)
   rotate_left
   ·rw [if_neg c5] at H
    exact absurd H (by simp)
   rw [if_pos c5] at H
   have c5b0 := decide_eq_true c5
   clear c5
   replace H := Option.bind_eq_some_iff.mp H
   obtain ⟨t103, A60, H⟩ := H
   replace H : (if t103 = true then (some x8_1) else (slices_IndexFunc_at_impl_Stock_lotAt_1.l0 k1 l0 (l0.length : Int) (wrap64 (x8_1 + 1)) a1_0 a1_1)) = some r := H
   have A6 := za A60
   clear A60
   by_cases c7 : t103 = true
   ·subst c7
    have H1 : (some x8_1) = some r := by rw [if_pos rfl] at H; exact H
    clear H
    have H := H1
    clear H1
    obtain rfl := Option.some.inj H
    have p102 : 0 ≤ (x8_1 : Int) := zO
    have q102 : x8_1 < (l0.length : Int) := zO
    obtain ⟨ad102, e102, hx102_0, hx102_1, hx102_2, hx102_3, hx102_4⟩ := at_T38 HR0.out x8_1 p102 q102
    cases e102
    replace hx102_0 := (HB.out.cell (zb w _ hx102_0)).trans hx102_0
    replace hx102_1 := (HB.out.cell (zb w _ hx102_1)).trans hx102_1
    replace hx102_2 := (HB.out.cell (zb w _ hx102_2)).trans hx102_2
    replace hx102_3 := (HB.out.cell (zb w _ hx102_3)).trans hx102_3
    replace hx102_4 := (HB.out.cell (zb w _ hx102_4)).trans hx102_4
    replace p102 := eq_true p102
    replace q102 := eq_true q102
    go_wp2_with (first | (go_at_call 62; (with_reducible refine (impl_Stock_lotAt_1.calls ((rd_T38 l0 x8_1).f0) ((rd_T38 l0 x8_1).f1) ((rd_T38 l0 x8_1).f2) ((rd_T38 l0 x8_1).f3) ((rd_T38 l0 x8_1).f4) gc1_0 a1_0 gc1_1 a1_1 true _ ?side1 ?side2 A6.out).mono ?_); (case side1 => exact zH54); (case side2 => exact zH55); rintro e w8 ⟨rfl, hb⟩; have n_ := zA_ (za (zq (g := gc1_0) (o := .cells #[.string a1_0] 9 (0, 0)) (by (with_reducible repeat (first | refine zf ?_ _ | refine zg ?_ | refine ze ?_ _)); exact BK28.out) hb)) (zA_ (za (zq (g := gc1_1) (o := .cells #[.int .i64 a1_1] 3 (0, 0)) (by (with_reducible repeat (first | refine zf ?_ _ | refine zg ?_ | refine ze ?_ _)); exact BK29.out) hb)) (za (zr zK143 hb))); clear BK28 BK29 HB; obtain ⟨BK28, BK29, HB⟩ := n_; (try clear hb)))
    go_ret
    exact zH11
   replace c7 := Bool.eq_false_iff.mpr c7
   subst c7
   have H1 : (slices_IndexFunc_at_impl_Stock_lotAt_1.l0 k1 l0 (l0.length : Int) (wrap64 (x8_1 + 1)) a1_0 a1_1) = some r := by rw [if_neg (show ¬ (false = true) by decide)] at H; exact H
   clear H
   have H := H1
   clear H1
   have H' := za H
   clear H
   have p102 : 0 ≤ (x8_1 : Int) := zO
   have q102 : x8_1 < (l0.length : Int) := zO
   obtain ⟨ad102, e102, hx102_0, hx102_1, hx102_2, hx102_3, hx102_4⟩ := at_T38 HR0.out x8_1 p102 q102
   cases e102
   replace hx102_0 := (HB.out.cell (zb w _ hx102_0)).trans hx102_0
   replace hx102_1 := (HB.out.cell (zb w _ hx102_1)).trans hx102_1
   replace hx102_2 := (HB.out.cell (zb w _ hx102_2)).trans hx102_2
   replace hx102_3 := (HB.out.cell (zb w _ hx102_3)).trans hx102_3
   replace hx102_4 := (HB.out.cell (zb w _ hx102_4)).trans hx102_4
   replace p102 := eq_true p102
   replace q102 := eq_true q102
   go_wp2_with (first | (go_at_call 62; (with_reducible refine (impl_Stock_lotAt_1.calls ((rd_T38 l0 x8_1).f0) ((rd_T38 l0 x8_1).f1) ((rd_T38 l0 x8_1).f2) ((rd_T38 l0 x8_1).f3) ((rd_T38 l0 x8_1).f4) gc1_0 a1_0 gc1_1 a1_1 false _ ?side1 ?side2 A6.out).mono ?_); (case side1 => exact zH54); (case side2 => exact zH55); rintro e w9 ⟨rfl, hb⟩; have n_ := zA_ (za (zq (g := gc1_0) (o := .cells #[.string a1_0] 9 (0, 0)) (by (with_reducible repeat (first | refine zf ?_ _ | refine zg ?_ | refine ze ?_ _)); exact BK28.out) hb)) (zA_ (za (zq (g := gc1_1) (o := .cells #[.int .i64 a1_1] 3 (0, 0)) (by (with_reducible repeat (first | refine zf ?_ _ | refine zg ?_ | refine ze ?_ _)); exact BK29.out) hb)) (za (zr zK143 hb))); clear BK28 BK29 HB; obtain ⟨BK28, BK29, HB⟩ := n_; (try clear hb)))
   go_roundg k1
   case measure => have := HK1.out; omega
   case rel => exact ⟨(wrap64 (x8_1 + 1)), zG82, H', ⟨zH88⟩, ⟨by (with_reducible repeat (first | refine zf ?_ _ | refine zg ?_ | refine ze ?_ _)); exact BK28.out⟩, ⟨by (with_reducible repeat (first | refine zf ?_ _ | refine zg ?_ | refine ze ?_ _)); exact BK29.out⟩, ⟨zH29⟩⟩
/-! ### impl_Stock_lotAt: function 50 -/
def impl_Stock_lotAt.f (k : Nat) (a0_0 : Int) (a0_1 : Int) (a0_2 : Int) (a0_3 : Int) (a0_4 : Int) (l0_5 : List (S38)) (a1 : ByteArray) (a2 : Int) : Option (Int × Int × Int × Int × Int × Int × (List (S38))) := (slices_IndexFunc_at_impl_Stock_lotAt_1.f k l0_5 a1 a2).bind fun t106 => (some (t106, a0_0, a0_1, a0_2, a0_3, a0_4, l0_5))
theorem impl_Stock_lotAt.mono : ∀ a0 a1 a2 a3 a4 a5 a6 a7 k, LeO (impl_Stock_lotAt.f k a0 a1 a2 a3 a4 a5 a6 a7) (impl_Stock_lotAt.f (k + 1) a0 a1 a2 a3 a4 a5 a6 a7) := by
 intro a0 a1 a2 a3 a4 a5 a6 a7 k
 unfold impl_Stock_lotAt.f
 repeat' first
   | (with_reducible exact slices_IndexFunc_at_impl_Stock_lotAt_1.mono _ _ _ _)
   | (with_reducible exact LeO.refl _)
   | (with_reducible exact LeO.none _)
   | (with_reducible refine LeO.ite ?_ ?_)
   | (with_reducible refine LeO.bind ?_ (fun _ => ?_))
   | exact slices_IndexFunc_at_impl_Stock_lotAt_1.mono _ _ _ _
   | exact LeO.none _
   | refine LeO.ite ?_ ?_
   | refine LeO.bind ?_ (fun _ => ?_)
set_option maxHeartbeats 64000000 in
set_option maxRecDepth 100000 in
theorem impl_Stock_lotAt.calls (k : Nat) (gi0 : Nat) (a0_0 : Int) (a0_1 : Int) (a0_2 : Int) (a0_3 : Int) (a0_4 : Int) (P0_5_ : Nat → Prop) (u9000_ : Value) (l0_5 : List (S38)) (a1 : ByteArray) (a2 : Int) (r1 : Int) (r2 : Int) (r3 : Int) (r4 : Int) (r5 : Int) (r6 : Int) (r7 : List (S38)) (w0 w : World) (hB : Below w0.heap.size w0 w) (hbk0 : w.heap[gi0]? = some (.cells (zs6 a0_0 a0_1 a0_2 a0_3 a0_4 u9000_) 29 (0, 0))) (hge0 : w0.heap.size ≤ gi0) (ho0_5 : Kd.R k38 38 w w0.heap.size P0_5_ u9000_ l0_5) (h : impl_Stock_lotAt.f k a0_0 a0_1 a0_2 a0_3 a0_4 l0_5 a1 a2 = some (r1, r2, r3, r4, r5, r6, r7)) :
  Calls Try.prog 50 #[.pointer (some ⟨gi0, 0, none⟩), .string a1, .int .i64 a2] w fun e w' => ∃ v6_ : Value, e = .returned (.int .i64 r1) ∧ Kd.R k38 38 w' w0.heap.size (fun k_ => (P0_5_ k_ ∨ w.heap.size ≤ k_)) v6_ r7 ∧ w'.heap[gi0]? = some (.cells (zs6 r2 r3 r4 r5 r6 v6_) 29 (0, 0)) ∧ Below w0.heap.size w0 w' ∧ Kept w w' (fun k_ => (P0_5_ k_) ∨ k_ = gi0) := by
 have hu9 := Try.underlying9
 have hu3 := Try.underlying3
 obtain ⟨HO0_5, BK0, GE0, HK, HW0, HB⟩ := zD6 (show Kd.R k38 38 w w0.heap.size (fun k_ => (P0_5_ k_ ∨ w.heap.size ≤ k_)) u9000_ l0_5 from zs ho0_5 (fun k_ hk => (.inl hk))) hbk0 hge0 (Kept.refl w (fun k_ => (P0_5_ k_) ∨ k_ = gi0)) hB.size hB
 clear hbk0 hge0 hB
 have H : ((slices_IndexFunc_at_impl_Stock_lotAt_1.f k l0_5 a1 a2).bind fun t106 => (some (t106, a0_0, a0_1, a0_2, a0_3, a0_4, l0_5))) = some (r1, r2, r3, r4, r5, r6, r7) := h
 clear h
 replace H := Option.bind_eq_some_iff.mp H
 obtain ⟨t106, A40, H⟩ := H
 replace H : (some (t106, a0_0, a0_1, a0_2, a0_3, a0_4, l0_5)) = some (r1, r2, r3, r4, r5, r6, r7) := H
 have A4 := za A40
 clear A40
 simp only [Option.some.injEq, Prod.mk.injEq] at H
 obtain ⟨rfl, rfl, rfl, rfl, rfl, rfl, rfl⟩ := H
 go_enter Try.func50, Try.ntmps50
 go_wp2_with (first | ((with_reducible refine gate_dst (N := 4) rfl ?_); refine box_event ?hg (N := 4) ?hd (cs := #[.string a1]) (t := 9) ?hr ?_; (case hd => rfl); (case hg => rfl); (case hr => exact zH83); intro gb104 hg w5 hbox hb; have n_ := zA_ (za (zo zK167 hb)) (zA_ (za (zq (g := gi0) (o := .cells (zs6 a0_0 a0_1 a0_2 a0_3 a0_4 u9000_) 29 (0, 0)) zG71 hb)) (zA_ (za (Kept.below (S := (fun k_ => (P0_5_ k_) ∨ k_ = gi0)) zK138 hb)) (zA_ (za (zr zK152 hb)) (zA_ (za (hbox)) (zA_ (zN1 w.heap.size hg zK126) (zA_ (zN1 w0.heap.size hg (zp zK152)) (zN2 hg (zv (g := gi0) (o := .cells (zs6 a0_0 a0_1 a0_2 a0_3 a0_4 u9000_) 29 (0, 0)) zG71)))))))); clear HO0_5 BK0 HK HB; obtain ⟨HO0_5, BK0, HK, HB, BK104, GW104, GE104, NB0_104, NB104_0⟩ := n_; clear hb hbox hg) | ((with_reducible refine gate_dst (N := 5) rfl ?_); refine box_event ?hg (N := 5) ?hd (cs := #[.int .i64 a2]) (t := 3) ?hr ?_; (case hd => rfl); (case hg => rfl); (case hr => exact zH83); intro gb105 hg w6 hbox hb; have n_ := zA_ (za (zo zK167 hb)) (zA_ (za (zq (g := gi0) (o := .cells (zs6 a0_0 a0_1 a0_2 a0_3 a0_4 u9000_) 29 (0, 0)) zG71 hb)) (zA_ (za (zq (g := gb104) (o := .cells #[.string a1] 9 (0, 0)) zK160 hb)) (zA_ (za (Kept.below (S := (fun k_ => (P0_5_ k_) ∨ k_ = gi0)) (by repeat (first | (with_reducible first | exact HK.out | apply Kept.alloc | apply Kept.drewN | apply Kept.drew | refine Kept.setCell ?_ (.inl (Or.inr rfl)) _ | refine Kept.setCell ?_ (.inr GW104.out) _) | exact HK.out)) hb)) (zA_ (za (zr zK144 hb)) (zA_ (za (hbox)) (zA_ (zN1 w.heap.size hg (by first | exact HK.out.1 | exact (show Kept w _ (fun k_ => (P0_5_ k_) ∨ k_ = gi0) from by repeat (first | (with_reducible first | exact HK.out | apply Kept.alloc | apply Kept.drewN | apply Kept.drew | refine Kept.setCell ?_ (.inl (Or.inr rfl)) _ | refine Kept.setCell ?_ (.inr GW104.out) _) | exact HK.out)).1)) (zA_ (zN1 w0.heap.size hg (zp zK144)) (zN3 hg (zv (g := gi0) (o := .cells (zs6 a0_0 a0_1 a0_2 a0_3 a0_4 u9000_) 29 (0, 0)) zG71) (zN2 hg (zv (g := gb104) (o := .cells #[.string a1] 9 (0, 0)) zK160)))))))))); clear HO0_5 BK0 BK104 HK HB; obtain ⟨HO0_5, BK0, BK104, HK, HB, BK105, GW105, GE105, NB0_105, NB105_0, NB104_105, NB105_104⟩ := n_; clear hb hbox hg; have hnb7 := NB0_104.out; have hnc7 := NB104_0.out; have hnb8 := NB0_105.out; have hnc8 := NB105_0.out; have hcz9_0 : w6.cell? ⟨gi0, 0, none⟩ = some (.int .i64 a0_0) := (q1a BK0.out 0).trans rfl; have hcz9_1 : w6.cell? ⟨gi0, 1, none⟩ = some (.int .i64 a0_1) := (q1a BK0.out 1).trans rfl; have hcz9_2 : w6.cell? ⟨gi0, 2, none⟩ = some (.int .i64 a0_2) := (q1a BK0.out 2).trans rfl; have hcz9_3 : w6.cell? ⟨gi0, 3, none⟩ = some (.int .i64 a0_3) := (q1a BK0.out 3).trans rfl; have hcz9_4 : w6.cell? ⟨gi0, 4, none⟩ = some (.int .i64 a0_4) := (q1a BK0.out 4).trans rfl; have hcz9_5 : w6.cell? ⟨gi0, 5, none⟩ = some (u9000_) := (q1a BK0.out 5).trans rfl; have hfz9_0 := zc BK0.out 0; have hfz9_1 := zc BK0.out 1; have hfz9_2 := zc BK0.out 2; have hfz9_3 := zc BK0.out 3; have hfz9_4 := zc BK0.out 4; have hfz9_5 := zc BK0.out 5; obtain ⟨Ao10, co10, eo10⟩ := zx HO0_5.out; subst eo10) | ((with_reducible refine gate_callee (f := 61) rfl ?_); refine goesL_ (some 12) rfl rfl Try.func61 zG83 rfl #[.slice Ao10 l0_5.length co10, .func (.func 62) #[] #[.pointer (some ⟨gb104, 0, none⟩), .pointer (some ⟨gb105, 0, none⟩)]] rfl zG54 ?_; (with_reducible refine (slices_IndexFunc_at_impl_Stock_lotAt_1.calls k _ _ l0_5 gb104 a1 gb105 a2 t106 _ ?side1 ?side2 ?side3 ?side4 A4.out).mono ?_); (case side1 => repeat (first | exact (Kd.R_reads' HO0_5.out).2.2 | (with_reducible refine zy ?_ _) | (with_reducible refine zz ?_ _) | (with_reducible refine zaa ?_))); (case side2 => exact (Kd.R_reads' HO0_5.out).2.1); (case side3 => exact zK160); (case side4 => exact (by (with_reducible repeat (first | refine zf ?_ _ | refine zg ?_ | refine ze ?_ _)); exact BK105.out)); rintro e w11 ⟨rfl, hb⟩; refine ⟨_, rfl, ?_⟩; have n_ := zA_ (za (zo zK167 hb)) (zA_ (za (zq (g := gi0) (o := .cells (zs6 a0_0 a0_1 a0_2 a0_3 a0_4 (.slice Ao10 l0_5.length co10)) 29 (0, 0)) zG71 hb)) (zA_ (za (zq (g := gb104) (o := .cells #[.string a1] 9 (0, 0)) zK160 hb)) (zA_ (za (zq (g := gb105) (o := .cells #[.int .i64 a2] 3 (0, 0)) (by (with_reducible repeat (first | refine zf ?_ _ | refine zg ?_ | refine ze ?_ _)); exact BK105.out) hb)) (zA_ (za (Kept.below (S := (fun k_ => (P0_5_ k_) ∨ k_ = gi0)) (by repeat (first | (with_reducible first | exact HK.out | apply Kept.alloc | apply Kept.drewN | apply Kept.drew | refine Kept.setCell ?_ (.inl (Or.inr rfl)) _ | refine Kept.setCell ?_ (.inr GW104.out) _ | refine Kept.setCell ?_ (.inr GW105.out) _) | exact HK.out)) hb)) (za (zr (by repeat (first | (with_reducible first | exact HB.out | apply zi | apply zd | apply zh | refine zj ?_ GE0.out | refine zj ?_ GE104.out | refine zj ?_ GE105.out) | exact HB.out)) hb)))))); clear HO0_5 BK0 BK104 BK105 HK HB; obtain ⟨HO0_5, BK0, BK104, BK105, HK, HB⟩ := n_; (try clear hb)))
 go_ret
 exact ⟨_, zH68, zH71, zG71, by repeat (first | (with_reducible first | exact HB.out | apply zi | apply zd | apply zh | refine zj ?_ GE0.out | refine zj ?_ GE104.out | refine zj ?_ GE105.out) | exact HB.out), by repeat (first | (with_reducible first | exact HK.out | apply Kept.alloc | apply Kept.drewN | apply Kept.drew | refine Kept.setCell ?_ (.inl (Or.inr rfl)) _ | refine Kept.setCell ?_ (.inr GW104.out) _ | refine Kept.setCell ?_ (.inr GW105.out) _) | exact HK.out)⟩

/-! ### impl_within: function 39 -/
def impl_within.f (a0 : Int) (a1 : Int) (a2 : Int) : Option (Bool) := if a0 ≥ a1 then (some (decide (a0 ≤ a2))) else (some false)
set_option maxHeartbeats 64000000 in
set_option maxRecDepth 100000 in
theorem impl_within.calls (a0 : Int) (a1 : Int) (a2 : Int) (r : Bool) (w : World) (h : impl_within.f a0 a1 a2 = some r) :
  Calls Try.prog 39 #[.int .i64 a0, .int .i64 a1, .int .i64 a2] w fun e w' => e = .returned (.bool r) ∧ Drawn0 w w' := by
 have H : (if a0 ≥ a1 then (some (decide (a0 ≤ a2))) else (some false)) = some r := h
 clear h
 by_cases c4 : a0 ≥ a1
 ·rw [if_pos c4] at H
  have c4b0 : decide (a1 ≤ a0) = true := decide_eq_true c4
  clear c4
  obtain rfl := Option.some.inj H
  go_enter Try.func39, Try.ntmps39
  go_wp2
  go_ret
  exact zH49
 rw [if_neg c4] at H
 have c4b0 : decide (a1 ≤ a0) = false := decide_eq_false c4
 clear c4
 obtain rfl := Option.some.inj H
 go_enter Try.func39, Try.ntmps39
 go_wp2
 go_ret
 exact zH49

/-! ### impl_isLetter: function 58 -/
def impl_isLetter.f (a0 : Int) : Option (Bool) := if a0 ≥ 97 then (if a0 ≤ 122 then (some true) else (if a0 ≥ 65 then (if a0 ≤ 90 then (some true) else (some (a0 == 95))) else (some (a0 == 95)))) else (if a0 ≥ 65 then (if a0 ≤ 90 then (some true) else (some (a0 == 95))) else (some (a0 == 95)))
set_option maxHeartbeats 64000000 in
set_option maxRecDepth 100000 in
theorem impl_isLetter.calls (a0 : Int) (r : Bool) (w : World) (h : impl_isLetter.f a0 = some r) :
  Calls Try.prog 58 #[.int .u8 a0] w fun e w' => e = .returned (.bool r) ∧ Drawn0 w w' := by
 have H : (if a0 ≥ 97 then (if a0 ≤ 122 then (some true) else (if a0 ≥ 65 then (if a0 ≤ 90 then (some true) else (some (a0 == 95))) else (some (a0 == 95)))) else (if a0 ≥ 65 then (if a0 ≤ 90 then (some true) else (some (a0 == 95))) else (some (a0 == 95)))) = some r := h
 clear h
 by_cases c2 : a0 ≥ 97
 rotate_left
 ·rw [if_neg c2] at H
  have c2b0 : decide (97 ≤ a0) = false := decide_eq_false c2
  clear c2
  by_cases c6 : a0 ≥ 65
  rotate_left
  ·rw [if_neg c6] at H
   have c6b0 : decide (65 ≤ a0) = false := decide_eq_false c6
   clear c6
   obtain rfl := Option.some.inj H
   go_enter Try.func58, Try.ntmps58
   go_wp2
   go_ret
   exact zH49

  rw [if_pos c6] at H
  have c6b0 : decide (65 ≤ a0) = true := decide_eq_true c6
  clear c6
  by_cases c7 : a0 ≤ 90
  rotate_left
  ·rw [if_neg c7] at H
   have c7b0 := decide_eq_false c7
   clear c7
   obtain rfl := Option.some.inj H
   go_enter Try.func58, Try.ntmps58
   go_wp2
   go_ret
   exact zH49
  rw [if_pos c7] at H
  have c7b0 := decide_eq_true c7
  clear c7
  obtain rfl := Option.some.inj H
  go_enter Try.func58, Try.ntmps58
  go_wp2
  go_ret
  exact zH49
 rw [if_pos c2] at H
 have c2b0 : decide (97 ≤ a0) = true := decide_eq_true c2
 clear c2
 by_cases c3 : a0 ≤ 122
 ·rw [if_pos c3] at H
  have c3b0 := decide_eq_true c3
  clear c3
  obtain rfl := Option.some.inj H
  go_enter Try.func58, Try.ntmps58
  go_wp2
  go_ret
  exact zH49
 rw [if_neg c3] at H
 have c3b0 := decide_eq_false c3
 clear c3
 by_cases c4 : a0 ≥ 65
 rotate_left
 ·rw [if_neg c4] at H
  have c4b0 : decide (65 ≤ a0) = false := decide_eq_false c4
  clear c4
  obtain rfl := Option.some.inj H
  go_enter Try.func58, Try.ntmps58
  go_wp2
  go_ret
  exact zH49
 rw [if_pos c4] at H
 have c4b0 : decide (65 ≤ a0) = true := decide_eq_true c4
 clear c4
 by_cases c5 : a0 ≤ 90
 rotate_left
 ·rw [if_neg c5] at H
  have c5b0 := decide_eq_false c5
  clear c5
  obtain rfl := Option.some.inj H
  go_enter Try.func58, Try.ntmps58
  go_wp2
  go_ret
  exact zH49
 rw [if_pos c5] at H
 have c5b0 := decide_eq_true c5
 clear c5
 obtain rfl := Option.some.inj H
 go_enter Try.func58, Try.ntmps58
 go_wp2
 go_ret
 exact zH49
/-! ### impl_isDigit: function 59 -/
def impl_isDigit.f (a0 : Int) : Option (Bool) := if a0 ≥ 48 then (some (decide (a0 ≤ 57))) else (some false)
set_option maxHeartbeats 64000000 in
set_option maxRecDepth 100000 in
theorem impl_isDigit.calls (a0 : Int) (r : Bool) (w : World) (h : impl_isDigit.f a0 = some r) :
  Calls Try.prog 59 #[.int .u8 a0] w fun e w' => e = .returned (.bool r) ∧ Drawn0 w w' := by
 have H : (if a0 ≥ 48 then (some (decide (a0 ≤ 57))) else (some false)) = some r := h
 clear h
 by_cases c2 : a0 ≥ 48
 ·rw [if_pos c2] at H
  have c2b0 : decide (48 ≤ a0) = true := decide_eq_true c2
  clear c2
  obtain rfl := Option.some.inj H
  go_enter Try.func59, Try.ntmps59
  go_wp2
  go_ret
  exact zH49
 rw [if_neg c2] at H
 have c2b0 : decide (48 ≤ a0) = false := decide_eq_false c2
 clear c2
 obtain rfl := Option.some.inj H
 go_enter Try.func59, Try.ntmps59
 go_wp2
 go_ret
 exact zH49

/-! ### impl_isWideLetter: function 60 -/
def impl_isWideLetter.j0 : Nat → ByteArray → Bool → Option (Bool)
 | 0, _, _ => none
 | k + 1, x0, x21 => if x21 = true then (some false) else (if 0 < (x0.size : Int) then (if 1 < (x0.size : Int) then ((impl_within.f (Go.bits .or .i64 (wrap64 ((wrap64 (Go.bits .and .u8 (bt x0 0) 31)) * 64)) (wrap64 (Go.bits .and .u8 (bt x0 1) 63))) 192 591).bind fun t107 => (if t107 = true then (if (Go.bits .or .i64 (wrap64 ((wrap64 (Go.bits .and .u8 (bt x0 0) 31)) * 64)) (wrap64 (Go.bits .and .u8 (bt x0 1) 63))) = 215 then ((impl_within.f (Go.bits .or .i64 (wrap64 ((wrap64 (Go.bits .and .u8 (bt x0 0) 31)) * 64)) (wrap64 (Go.bits .and .u8 (bt x0 1) 63))) 913 969).bind fun t108 => (if t108 = true then (some true) else ((impl_within.f (Go.bits .or .i64 (wrap64 ((wrap64 (Go.bits .and .u8 (bt x0 0) 31)) * 64)) (wrap64 (Go.bits .and .u8 (bt x0 1) 63))) 1040 1103).bind fun t109 => (some t109)))) else (if (Go.bits .or .i64 (wrap64 ((wrap64 (Go.bits .and .u8 (bt x0 0) 31)) * 64)) (wrap64 (Go.bits .and .u8 (bt x0 1) 63))) = 247 then ((impl_within.f (Go.bits .or .i64 (wrap64 ((wrap64 (Go.bits .and .u8 (bt x0 0) 31)) * 64)) (wrap64 (Go.bits .and .u8 (bt x0 1) 63))) 913 969).bind fun t110 => (if t110 = true then (some true) else ((impl_within.f (Go.bits .or .i64 (wrap64 ((wrap64 (Go.bits .and .u8 (bt x0 0) 31)) * 64)) (wrap64 (Go.bits .and .u8 (bt x0 1) 63))) 1040 1103).bind fun t111 => (some t111)))) else (some true))) else ((impl_within.f (Go.bits .or .i64 (wrap64 ((wrap64 (Go.bits .and .u8 (bt x0 0) 31)) * 64)) (wrap64 (Go.bits .and .u8 (bt x0 1) 63))) 913 969).bind fun t112 => (if t112 = true then (some true) else ((impl_within.f (Go.bits .or .i64 (wrap64 ((wrap64 (Go.bits .and .u8 (bt x0 0) 31)) * 64)) (wrap64 (Go.bits .and .u8 (bt x0 1) 63))) 1040 1103).bind fun t113 => (some t113)))))) else (none)) else (none))
def impl_isWideLetter.f (k : Nat) (a0 : ByteArray) : Option (Bool) := if 0 < (a0.size : Int) then (if (bt a0 0) < 194 then (impl_isWideLetter.j0 k a0 true) else (if (bt a0 0) > 223 then (impl_isWideLetter.j0 k a0 true) else (if 1 < (a0.size : Int) then (if (bt a0 1) < 128 then (impl_isWideLetter.j0 k a0 true) else (impl_isWideLetter.j0 k a0 (decide ((bt a0 1) > 191)))) else (none)))) else (none)
theorem impl_isWideLetter.mono_l : ∀ k, (∀ y0 y1, LeO (impl_isWideLetter.j0 k y0 y1) (impl_isWideLetter.j0 (k + 1) y0 y1))
 | 0 => fun _ _ r h => by simp [impl_isWideLetter.j0] at h
 | k + 1 => by
  have ih0 := impl_isWideLetter.mono_l k
  ·intro y0 y1
   unfold impl_isWideLetter.j0
   repeat' first
   | (with_reducible exact ih0 _ _)
   | (with_reducible exact LeO.refl _)
   | (with_reducible exact LeO.none _)
   | (with_reducible refine LeO.ite ?_ ?_)
   | (with_reducible refine LeO.bind ?_ (fun _ => ?_))
   | exact ih0 _ _
   | exact LeO.none _
   | refine LeO.ite ?_ ?_
   | refine LeO.bind ?_ (fun _ => ?_)
theorem impl_isWideLetter.mono : ∀ a0 k, LeO (impl_isWideLetter.f k a0) (impl_isWideLetter.f (k + 1) a0) := by
 intro a0 k
 have ih0 := impl_isWideLetter.mono_l k
 unfold impl_isWideLetter.f
 repeat' first
   | (with_reducible exact ih0 _ _)
   | (with_reducible exact LeO.refl _)
   | (with_reducible exact LeO.none _)
   | (with_reducible refine LeO.ite ?_ ?_)
   | (with_reducible refine LeO.bind ?_ (fun _ => ?_))
   | exact ih0 _ _
   | exact LeO.none _
   | refine LeO.ite ?_ ?_
   | refine LeO.bind ?_ (fun _ => ?_)
set_option maxHeartbeats 64000000 in
set_option maxRecDepth 100000 in
theorem impl_isWideLetter.calls (k : Nat) (a0 : ByteArray) (r : Bool) (w : World) (h : impl_isWideLetter.f k a0 = some r) :
  Calls Try.prog 60 #[.string a0] w fun e w' => e = .returned (.bool r) ∧ Drawn0 w w' := by
 have H : (if 0 < (a0.size : Int) then (if (bt a0 0) < 194 then (impl_isWideLetter.j0 k a0 true) else (if (bt a0 0) > 223 then (impl_isWideLetter.j0 k a0 true) else (if 1 < (a0.size : Int) then (if (bt a0 1) < 128 then (impl_isWideLetter.j0 k a0 true) else (impl_isWideLetter.j0 k a0 (decide ((bt a0 1) > 191)))) else (none)))) else (none)) = some r := h
 clear h
 have HC2 := za H
 clear H
 go_enter Try.func60, Try.ntmps60
 go_upto_region 1 with (fail)
 repeat (go_quiet (fail); go_upto_region 1 with (fail))
 go_cut [21] (fun v21 wc => ∃ (kq : Nat) (x21_1 : Bool), v21 = .bool x21_1 ∧ Aside0 (impl_isWideLetter.j0 kq a0 x21_1 = some r) ∧ Aside0 (kq ≤ k) ∧ Drawn0 w wc)
 case first =>
  have H := HC2.out
  clear HC2
  by_cases c3 : 0 < (a0.size : Int)
  rotate_left
  ·rw [if_neg c3] at H
   exact absurd H (by simp)
  rw [if_pos c3] at H
  have c3b0 := decide_eq_true c3
  have c3b1 : decide (0 < a0.size) = true := decide_eq_true (by omega)
  clear c3
  (first | rw [c3b0] | (simp only [i64_w, i32_w]; rw [c3b0]) | skip)
  by_cases c5 : (bt a0 0) < 194
  ·rw [if_pos c5] at H
   have c5b0 := decide_eq_true c5
   clear c5
   have H' := za H
   clear H
   have p4 : 0 ≤ (0 : Int) := (by omega)
   have q4 : 0 < a0.size := (by have : (0 : Int) < (a0.size : Int) := zO; omega)
   have hx4 : ∀ h : 0 < a0.size, ((a0[0]'h).toNat : Int) = bt a0 0 := bt_at a0 0
   clear p4
   have qi4 : (0 < (a0.size : Int)) = True := eq_true zO
   replace q4 := eq_true q4
   go_wp2
   repeat (go_quiet (fail); try go_wp2)
   go_meet
   case rel => exact ⟨_, (true), zG82, H', ⟨zH84⟩, zH77⟩
  rw [if_neg c5] at H
  have c5b0 := decide_eq_false c5
  clear c5
  by_cases c7 : (bt a0 0) > 223
  ·rw [if_pos c7] at H
   have c7b0 : decide (223 < (bt a0 0)) = true := decide_eq_true c7
   clear c7
   have H' := za H
   clear H
   have p4 : 0 ≤ (0 : Int) := (by omega)
   have q4 : 0 < a0.size := (by have : (0 : Int) < (a0.size : Int) := zO; omega)
   have hx4 : ∀ h : 0 < a0.size, ((a0[0]'h).toNat : Int) = bt a0 0 := bt_at a0 0
   clear p4
   have qi4 : (0 < (a0.size : Int)) = True := eq_true zO
   replace q4 := eq_true q4
   have p6 : 0 ≤ (0 : Int) := (by omega)
   have q6 : 0 < a0.size := (by have : (0 : Int) < (a0.size : Int) := zO; omega)
   have hx6 : ∀ h : 0 < a0.size, ((a0[0]'h).toNat : Int) = bt a0 0 := bt_at a0 0
   clear p6
   have qi6 : (0 < (a0.size : Int)) = True := eq_true zO
   replace q6 := eq_true q6
   go_wp2
   repeat (go_quiet (fail); try go_wp2)
   go_meet
   case rel => exact ⟨_, (true), zG82, H', ⟨zH84⟩, zH77⟩
  rw [if_neg c7] at H
  have c7b0 : decide (223 < (bt a0 0)) = false := decide_eq_false c7
  clear c7
  by_cases c8 : 1 < (a0.size : Int)
  rotate_left
  ·rw [if_neg c8] at H
   exact absurd H (by simp)
  rw [if_pos c8] at H
  have c8b0 := decide_eq_true c8
  have c8b1 : decide (1 < a0.size) = true := decide_eq_true (by omega)
  clear c8
  by_cases c10 : (bt a0 1) < 128
  ·rw [if_pos c10] at H
   have c10b0 := decide_eq_true c10
   clear c10
   have H' := za H
   clear H
   have p4 : 0 ≤ (0 : Int) := (by omega)
   have q4 : 0 < a0.size := (by have : (0 : Int) < (a0.size : Int) := zO; omega)
   have hx4 : ∀ h : 0 < a0.size, ((a0[0]'h).toNat : Int) = bt a0 0 := bt_at a0 0
   clear p4
   have qi4 : (0 < (a0.size : Int)) = True := eq_true zO
   replace q4 := eq_true q4
   have p6 : 0 ≤ (0 : Int) := (by omega)
   have q6 : 0 < a0.size := (by have : (0 : Int) < (a0.size : Int) := zO; omega)
   have hx6 : ∀ h : 0 < a0.size, ((a0[0]'h).toNat : Int) = bt a0 0 := bt_at a0 0
   clear p6
   have qi6 : (0 < (a0.size : Int)) = True := eq_true zO
   replace q6 := eq_true q6
   have p9 : 0 ≤ (1 : Int) := (by omega)
   have q9 : 1 < a0.size := (by have : (1 : Int) < (a0.size : Int) := zO; omega)
   have hx9 : ∀ h : 1 < a0.size, ((a0[1]'h).toNat : Int) = bt a0 1 := bt_at a0 1
   clear p9
   have qi9 : (1 < (a0.size : Int)) = True := eq_true zO
   replace q9 := eq_true q9
   go_wp2
   repeat (go_quiet (fail); try go_wp2)
   go_meet
   case rel => exact ⟨_, (true), zG82, H', ⟨zH84⟩, zH77⟩
  rw [if_neg c10] at H
  have c10b0 := decide_eq_false c10
  clear c10
  have H' := za H
  clear H
  have p4 : 0 ≤ (0 : Int) := (by omega)
  have q4 : 0 < a0.size := (by have : (0 : Int) < (a0.size : Int) := zO; omega)
  have hx4 : ∀ h : 0 < a0.size, ((a0[0]'h).toNat : Int) = bt a0 0 := bt_at a0 0
  clear p4
  have qi4 : (0 < (a0.size : Int)) = True := eq_true zO
  replace q4 := eq_true q4
  have p6 : 0 ≤ (0 : Int) := (by omega)
  have q6 : 0 < a0.size := (by have : (0 : Int) < (a0.size : Int) := zO; omega)
  have hx6 : ∀ h : 0 < a0.size, ((a0[0]'h).toNat : Int) = bt a0 0 := bt_at a0 0
  clear p6
  have qi6 : (0 < (a0.size : Int)) = True := eq_true zO
  replace q6 := eq_true q6
  have p9 : 0 ≤ (1 : Int) := (by omega)
  have q9 : 1 < a0.size := (by have : (1 : Int) < (a0.size : Int) := zO; omega)
  have hx9 : ∀ h : 1 < a0.size, ((a0[1]'h).toNat : Int) = bt a0 1 := bt_at a0 1
  clear p9
  have qi9 : (1 < (a0.size : Int)) = True := eq_true zO
  replace q9 := eq_true q9
  have p11 : 0 ≤ (1 : Int) := (by omega)
  have q11 : 1 < a0.size := (by have : (1 : Int) < (a0.size : Int) := zO; omega)
  have hx11 : ∀ h : 1 < a0.size, ((a0[1]'h).toNat : Int) = bt a0 1 := bt_at a0 1
  clear p11
  have qi11 : (1 < (a0.size : Int)) = True := eq_true zO
  replace q11 := eq_true q11
  go_wp2
  repeat (go_quiet (fail); try go_wp2)
  go_meet
  case rel => exact ⟨_, (decide ((bt a0 1) > 191)), zG82, H', ⟨zH84⟩, zH77⟩
 case rest =>
  clear HC2
  try clear c3
  try clear c3b0
  try clear c3b1
  try clear p4
  try clear q4
  try clear hx4
  try clear qi4
  try clear c5
  try clear c5b0
  try clear p6
  try clear q6
  try clear hx6
  try clear qi6
  try clear c7
  try clear c7b0
  try clear c8
  try clear c8b0
  try clear c8b1
  try clear p9
  try clear q9
  try clear hx9
  try clear qi9
  try clear c10
  try clear c10b0
  try clear p11
  try clear q11
  try clear hx11
  try clear qi11
  try clear p11
  try clear p4
  try clear p6
  try clear p9
  try clear q11
  try clear q4
  try clear q6
  try clear q9
  obtain ⟨kq, x21_1, rfl, HA, HJ1, ⟨mc1, rfl⟩⟩ := hcut
  cases kq with
  | zero => exact absurd HA.out (by simp [impl_isWideLetter.j0])
  | succ kj1 =>
   have H := HA.out
   clear HA
   simp only [impl_isWideLetter.j0] at H
   by_cases c12 : x21_1 = true
   ·subst c12
    have H1 : (some false) = some r := by rw [if_pos rfl] at H; exact H
    clear H
    have H := H1
    clear H1
    obtain rfl := Option.some.inj H
    go_wp2
    repeat (go_quiet (fail); try go_wp2)
    go_ret
    exact zH49
   replace c12 := Bool.eq_false_iff.mpr c12
   subst c12
   have H1 : (if 0 < (a0.size : Int) then (if 1 < (a0.size : Int) then ((impl_within.f (zwd a0) 192 591).bind fun t107 => (if t107 = true then (if (zwd a0) = 215 then ((impl_within.f (zwd a0) 913 969).bind fun t108 => (if t108 = true then (some true) else ((impl_within.f (zwd a0) 1040 1103).bind fun t109 => (some t109)))) else (if (zwd a0) = 247 then ((impl_within.f (zwd a0) 913 969).bind fun t110 => (if t110 = true then (some true) else ((impl_within.f (zwd a0) 1040 1103).bind fun t111 => (some t111)))) else (some true))) else ((impl_within.f (zwd a0) 913 969).bind fun t112 => (if t112 = true then (some true) else ((impl_within.f (zwd a0) 1040 1103).bind fun t113 => (some t113)))))) else (none)) else (none)) = some r := by rw [if_neg (show ¬ (false = true) by decide)] at H; exact H
   clear H
   have H := H1
   clear H1
   by_cases c13 : 0 < (a0.size : Int)
   rotate_left
   ·rw [if_neg c13] at H
    exact absurd H (by simp)

   rw [if_pos c13] at H
   have c13b0 := decide_eq_true c13
   have c13b1 : decide (0 < a0.size) = true := decide_eq_true (by omega)
   clear c13
   by_cases c15 : 1 < (a0.size : Int)
   rotate_left
   ·rw [if_neg c15] at H
    exact absurd H (by simp)
   rw [if_pos c15] at H
   have c15b0 := decide_eq_true c15
   have c15b1 : decide (1 < a0.size) = true := decide_eq_true (by omega)
   clear c15
   replace H := Option.bind_eq_some_iff.mp H
   obtain ⟨t107, A170, H⟩ := H
   replace H : (if t107 = true then (if (zwd a0) = 215 then ((impl_within.f (zwd a0) 913 969).bind fun t108 => (if t108 = true then (some true) else ((impl_within.f (zwd a0) 1040 1103).bind fun t109 => (some t109)))) else (if (zwd a0) = 247 then ((impl_within.f (zwd a0) 913 969).bind fun t110 => (if t110 = true then (some true) else ((impl_within.f (zwd a0) 1040 1103).bind fun t111 => (some t111)))) else (some true))) else ((impl_within.f (zwd a0) 913 969).bind fun t112 => (if t112 = true then (some true) else ((impl_within.f (zwd a0) 1040 1103).bind fun t113 => (some t113))))) = some r := H
   have A17 := za A170
   clear A170
   by_cases c18 : t107 = true
   rotate_left
   ·replace c18 := Bool.eq_false_iff.mpr c18
    subst c18
    have H1 : ((impl_within.f (zwd a0) 913 969).bind fun t112 => (if t112 = true then (some true) else ((impl_within.f (zwd a0) 1040 1103).bind fun t113 => (some t113)))) = some r := by rw [if_neg (show ¬ (false = true) by decide)] at H; exact H
    clear H
    have H := H1
    clear H1
    replace H := Option.bind_eq_some_iff.mp H
    obtain ⟨t112, A270, H⟩ := H
    replace H : (if t112 = true then (some true) else ((impl_within.f (zwd a0) 1040 1103).bind fun t113 => (some t113))) = some r := H
    have A27 := za A270
    clear A270
    by_cases c28 : t112 = true
    ·subst c28
     have H1 : (some true) = some r := by rw [if_pos rfl] at H; exact H
     clear H
     have H := H1
     clear H1
     obtain rfl := Option.some.inj H
     have p14 : 0 ≤ (0 : Int) := (by omega)
     have q14 : 0 < a0.size := (by have : (0 : Int) < (a0.size : Int) := zO; omega)
     have hx14 : ∀ h : 0 < a0.size, ((a0[0]'h).toNat : Int) = bt a0 0 := bt_at a0 0
     clear p14
     have qi14 : (0 < (a0.size : Int)) = True := eq_true zO
     replace q14 := eq_true q14
     have p16 : 0 ≤ (1 : Int) := (by omega)
     have q16 : 1 < a0.size := (by have : (1 : Int) < (a0.size : Int) := zO; omega)
     have hx16 : ∀ h : 1 < a0.size, ((a0[1]'h).toNat : Int) = bt a0 1 := bt_at a0 1
     clear p16
     have qi16 : (1 < (a0.size : Int)) = True := eq_true zO
     replace q16 := eq_true q16
     go_wp2_with (first | (go_at_call 39; (with_reducible refine (impl_within.calls (zwd a0) 192 591 false _ A17.out).mono ?_); rintro e w' ⟨rfl, ⟨nd, rfl⟩⟩; (try first | exact ⟨rfl, _, World.drewN_drewN _ _ _⟩ | exact ⟨rfl, _, Eq.trans (World.drewN_drewN _ _ _) (congrArg (World.drewN _) (Nat.add_assoc _ _ _))⟩)) | (go_at_call 39; (with_reducible refine (impl_within.calls (zwd a0) 913 969 true _ A27.out).mono ?_); rintro e w' ⟨rfl, ⟨nd, rfl⟩⟩; (try first | exact ⟨rfl, _, World.drewN_drewN _ _ _⟩ | exact ⟨rfl, _, Eq.trans (World.drewN_drewN _ _ _) (congrArg (World.drewN _) (Nat.add_assoc _ _ _))⟩)))
     repeat (go_quiet (first | (go_at_call 39; (with_reducible refine (impl_within.calls (zwd a0) 192 591 false _ A17.out).mono ?_); rintro e w' ⟨rfl, ⟨nd, rfl⟩⟩; (try first | exact ⟨rfl, _, World.drewN_drewN _ _ _⟩ | exact ⟨rfl, _, Eq.trans (World.drewN_drewN _ _ _) (congrArg (World.drewN _) (Nat.add_assoc _ _ _))⟩)) | (go_at_call 39; (with_reducible refine (impl_within.calls (zwd a0) 913 969 true _ A27.out).mono ?_); rintro e w' ⟨rfl, ⟨nd, rfl⟩⟩; (try first | exact ⟨rfl, _, World.drewN_drewN _ _ _⟩ | exact ⟨rfl, _, Eq.trans (World.drewN_drewN _ _ _) (congrArg (World.drewN _) (Nat.add_assoc _ _ _))⟩))); try go_wp2_with (first | (go_at_call 39; (with_reducible refine (impl_within.calls (zwd a0) 192 591 false _ A17.out).mono ?_); rintro e w' ⟨rfl, ⟨nd, rfl⟩⟩; (try first | exact ⟨rfl, _, World.drewN_drewN _ _ _⟩ | exact ⟨rfl, _, Eq.trans (World.drewN_drewN _ _ _) (congrArg (World.drewN _) (Nat.add_assoc _ _ _))⟩)) | (go_at_call 39; (with_reducible refine (impl_within.calls (zwd a0) 913 969 true _ A27.out).mono ?_); rintro e w' ⟨rfl, ⟨nd, rfl⟩⟩; (try first | exact ⟨rfl, _, World.drewN_drewN _ _ _⟩ | exact ⟨rfl, _, Eq.trans (World.drewN_drewN _ _ _) (congrArg (World.drewN _) (Nat.add_assoc _ _ _))⟩))))
     go_ret
     exact zH49
    replace c28 := Bool.eq_false_iff.mpr c28
    subst c28
    have H1 : ((impl_within.f (zwd a0) 1040 1103).bind fun t113 => (some t113)) = some r := by rw [if_neg (show ¬ (false = true) by decide)] at H; exact H
    clear H
    have H := H1
    clear H1
    replace H := Option.bind_eq_some_iff.mp H
    obtain ⟨t113, A290, H⟩ := H
    replace H : (some t113) = some r := H
    have A29 := za A290
    clear A290
    obtain rfl := Option.some.inj H
    have p14 : 0 ≤ (0 : Int) := (by omega)
    have q14 : 0 < a0.size := (by have : (0 : Int) < (a0.size : Int) := zO; omega)
    have hx14 : ∀ h : 0 < a0.size, ((a0[0]'h).toNat : Int) = bt a0 0 := bt_at a0 0
    clear p14
    have qi14 : (0 < (a0.size : Int)) = True := eq_true zO
    replace q14 := eq_true q14
    have p16 : 0 ≤ (1 : Int) := (by omega)
    have q16 : 1 < a0.size := (by have : (1 : Int) < (a0.size : Int) := zO; omega)
    have hx16 : ∀ h : 1 < a0.size, ((a0[1]'h).toNat : Int) = bt a0 1 := bt_at a0 1
    clear p16
    have qi16 : (1 < (a0.size : Int)) = True := eq_true zO
    replace q16 := eq_true q16
    go_wp2_with (first | (go_at_call 39; (with_reducible refine (impl_within.calls (zwd a0) 192 591 false _ A17.out).mono ?_); rintro e w' ⟨rfl, ⟨nd, rfl⟩⟩; (try first | exact ⟨rfl, _, World.drewN_drewN _ _ _⟩ | exact ⟨rfl, _, Eq.trans (World.drewN_drewN _ _ _) (congrArg (World.drewN _) (Nat.add_assoc _ _ _))⟩)) | (go_at_call 39; (with_reducible refine (impl_within.calls (zwd a0) 913 969 false _ A27.out).mono ?_); rintro e w' ⟨rfl, ⟨nd, rfl⟩⟩; (try first | exact ⟨rfl, _, World.drewN_drewN _ _ _⟩ | exact ⟨rfl, _, Eq.trans (World.drewN_drewN _ _ _) (congrArg (World.drewN _) (Nat.add_assoc _ _ _))⟩)) | (go_at_call 39; (with_reducible refine (impl_within.calls (zwd a0) 1040 1103 t113 _ A29.out).mono ?_); rintro e w' ⟨rfl, ⟨nd, rfl⟩⟩; (try first | exact ⟨rfl, _, World.drewN_drewN _ _ _⟩ | exact ⟨rfl, _, Eq.trans (World.drewN_drewN _ _ _) (congrArg (World.drewN _) (Nat.add_assoc _ _ _))⟩)))
    repeat (go_quiet (first | (go_at_call 39; (with_reducible refine (impl_within.calls (zwd a0) 192 591 false _ A17.out).mono ?_); rintro e w' ⟨rfl, ⟨nd, rfl⟩⟩; (try first | exact ⟨rfl, _, World.drewN_drewN _ _ _⟩ | exact ⟨rfl, _, Eq.trans (World.drewN_drewN _ _ _) (congrArg (World.drewN _) (Nat.add_assoc _ _ _))⟩)) | (go_at_call 39; (with_reducible refine (impl_within.calls (zwd a0) 913 969 false _ A27.out).mono ?_); rintro e w' ⟨rfl, ⟨nd, rfl⟩⟩; (try first | exact ⟨rfl, _, World.drewN_drewN _ _ _⟩ | exact ⟨rfl, _, Eq.trans (World.drewN_drewN _ _ _) (congrArg (World.drewN _) (Nat.add_assoc _ _ _))⟩)) | (go_at_call 39; (with_reducible refine (impl_within.calls (zwd a0) 1040 1103 t113 _ A29.out).mono ?_); rintro e w' ⟨rfl, ⟨nd, rfl⟩⟩; (try first | exact ⟨rfl, _, World.drewN_drewN _ _ _⟩ | exact ⟨rfl, _, Eq.trans (World.drewN_drewN _ _ _) (congrArg (World.drewN _) (Nat.add_assoc _ _ _))⟩))); try go_wp2_with (first | (go_at_call 39; (with_reducible refine (impl_within.calls (zwd a0) 192 591 false _ A17.out).mono ?_); rintro e w' ⟨rfl, ⟨nd, rfl⟩⟩; (try first | exact ⟨rfl, _, World.drewN_drewN _ _ _⟩ | exact ⟨rfl, _, Eq.trans (World.drewN_drewN _ _ _) (congrArg (World.drewN _) (Nat.add_assoc _ _ _))⟩)) | (go_at_call 39; (with_reducible refine (impl_within.calls (zwd a0) 913 969 false _ A27.out).mono ?_); rintro e w' ⟨rfl, ⟨nd, rfl⟩⟩; (try first | exact ⟨rfl, _, World.drewN_drewN _ _ _⟩ | exact ⟨rfl, _, Eq.trans (World.drewN_drewN _ _ _) (congrArg (World.drewN _) (Nat.add_assoc _ _ _))⟩)) | (go_at_call 39; (with_reducible refine (impl_within.calls (zwd a0) 1040 1103 t113 _ A29.out).mono ?_); rintro e w' ⟨rfl, ⟨nd, rfl⟩⟩; (try first | exact ⟨rfl, _, World.drewN_drewN _ _ _⟩ | exact ⟨rfl, _, Eq.trans (World.drewN_drewN _ _ _) (congrArg (World.drewN _) (Nat.add_assoc _ _ _))⟩))))
    go_ret
    exact zH49
   subst c18
   have H1 : (if (zwd a0) = 215 then ((impl_within.f (zwd a0) 913 969).bind fun t108 => (if t108 = true then (some true) else ((impl_within.f (zwd a0) 1040 1103).bind fun t109 => (some t109)))) else (if (zwd a0) = 247 then ((impl_within.f (zwd a0) 913 969).bind fun t110 => (if t110 = true then (some true) else ((impl_within.f (zwd a0) 1040 1103).bind fun t111 => (some t111)))) else (some true))) = some r := by rw [if_pos rfl] at H; exact H
   clear H
   have H := H1
   clear H1
   by_cases c19 : (zwd a0) = 215
   ·rw [if_pos c19] at H
    have c19b0 : ((zwd a0) == 215) = true := beq_iff_eq.mpr c19
    have c19b1 : ((zwd a0) != 215) = false := bne_eq_false_iff_eq.mpr c19
    clear c19
    replace H := Option.bind_eq_some_iff.mp H
    obtain ⟨t108, A200, H⟩ := H
    replace H : (if t108 = true then (some true) else ((impl_within.f (zwd a0) 1040 1103).bind fun t109 => (some t109))) = some r := H
    have A20 := za A200
    clear A200
    by_cases c21 : t108 = true
    ·subst c21
     have H1 : (some true) = some r := by rw [if_pos rfl] at H; exact H
     clear H
     have H := H1
     clear H1
     obtain rfl := Option.some.inj H
     have p14 : 0 ≤ (0 : Int) := (by omega)
     have q14 : 0 < a0.size := (by have : (0 : Int) < (a0.size : Int) := zO; omega)
     have hx14 : ∀ h : 0 < a0.size, ((a0[0]'h).toNat : Int) = bt a0 0 := bt_at a0 0
     clear p14
     have qi14 : (0 < (a0.size : Int)) = True := eq_true zO
     replace q14 := eq_true q14
     have p16 : 0 ≤ (1 : Int) := (by omega)
     have q16 : 1 < a0.size := (by have : (1 : Int) < (a0.size : Int) := zO; omega)
     have hx16 : ∀ h : 1 < a0.size, ((a0[1]'h).toNat : Int) = bt a0 1 := bt_at a0 1
     clear p16
     have qi16 : (1 < (a0.size : Int)) = True := eq_true zO
     replace q16 := eq_true q16
     go_wp2_with (first | (go_at_call 39; (with_reducible refine (impl_within.calls (zwd a0) 192 591 true _ A17.out).mono ?_); rintro e w' ⟨rfl, ⟨nd, rfl⟩⟩; (try first | exact ⟨rfl, _, World.drewN_drewN _ _ _⟩ | exact ⟨rfl, _, Eq.trans (World.drewN_drewN _ _ _) (congrArg (World.drewN _) (Nat.add_assoc _ _ _))⟩)) | (go_at_call 39; (with_reducible refine (impl_within.calls (zwd a0) 913 969 true _ A20.out).mono ?_); rintro e w' ⟨rfl, ⟨nd, rfl⟩⟩; (try first | exact ⟨rfl, _, World.drewN_drewN _ _ _⟩ | exact ⟨rfl, _, Eq.trans (World.drewN_drewN _ _ _) (congrArg (World.drewN _) (Nat.add_assoc _ _ _))⟩)))
     repeat (go_quiet (first | (go_at_call 39; (with_reducible refine (impl_within.calls (zwd a0) 192 591 true _ A17.out).mono ?_); rintro e w' ⟨rfl, ⟨nd, rfl⟩⟩; (try first | exact ⟨rfl, _, World.drewN_drewN _ _ _⟩ | exact ⟨rfl, _, Eq.trans (World.drewN_drewN _ _ _) (congrArg (World.drewN _) (Nat.add_assoc _ _ _))⟩)) | (go_at_call 39; (with_reducible refine (impl_within.calls (zwd a0) 913 969 true _ A20.out).mono ?_); rintro e w' ⟨rfl, ⟨nd, rfl⟩⟩; (try first | exact ⟨rfl, _, World.drewN_drewN _ _ _⟩ | exact ⟨rfl, _, Eq.trans (World.drewN_drewN _ _ _) (congrArg (World.drewN _) (Nat.add_assoc _ _ _))⟩))); try go_wp2_with (first | (go_at_call 39; (with_reducible refine (impl_within.calls (zwd a0) 192 591 true _ A17.out).mono ?_); rintro e w' ⟨rfl, ⟨nd, rfl⟩⟩; (try first | exact ⟨rfl, _, World.drewN_drewN _ _ _⟩ | exact ⟨rfl, _, Eq.trans (World.drewN_drewN _ _ _) (congrArg (World.drewN _) (Nat.add_assoc _ _ _))⟩)) | (go_at_call 39; (with_reducible refine (impl_within.calls (zwd a0) 913 969 true _ A20.out).mono ?_); rintro e w' ⟨rfl, ⟨nd, rfl⟩⟩; (try first | exact ⟨rfl, _, World.drewN_drewN _ _ _⟩ | exact ⟨rfl, _, Eq.trans (World.drewN_drewN _ _ _) (congrArg (World.drewN _) (Nat.add_assoc _ _ _))⟩))))
     go_ret
     exact zH49
    replace c21 := Bool.eq_false_iff.mpr c21
    subst c21
    have H1 : ((impl_within.f (zwd a0) 1040 1103).bind fun t109 => (some t109)) = some r := by rw [if_neg (show ¬ (false = true) by decide)] at H; exact H
    clear H
    have H := H1
    clear H1
    replace H := Option.bind_eq_some_iff.mp H
    obtain ⟨t109, A220, H⟩ := H
    replace H : (some t109) = some r := H
    have A22 := za A220
    clear A220
    obtain rfl := Option.some.inj H
    have p14 : 0 ≤ (0 : Int) := (by omega)
    have q14 : 0 < a0.size := (by have : (0 : Int) < (a0.size : Int) := zO; omega)
    have hx14 : ∀ h : 0 < a0.size, ((a0[0]'h).toNat : Int) = bt a0 0 := bt_at a0 0
    clear p14
    have qi14 : (0 < (a0.size : Int)) = True := eq_true zO
    replace q14 := eq_true q14
    have p16 : 0 ≤ (1 : Int) := (by omega)
    have q16 : 1 < a0.size := (by have : (1 : Int) < (a0.size : Int) := zO; omega)
    have hx16 : ∀ h : 1 < a0.size, ((a0[1]'h).toNat : Int) = bt a0 1 := bt_at a0 1
    clear p16
    have qi16 : (1 < (a0.size : Int)) = True := eq_true zO
    replace q16 := eq_true q16
    go_wp2_with (first | (go_at_call 39; (with_reducible refine (impl_within.calls (zwd a0) 192 591 true _ A17.out).mono ?_); rintro e w' ⟨rfl, ⟨nd, rfl⟩⟩; (try first | exact ⟨rfl, _, World.drewN_drewN _ _ _⟩ | exact ⟨rfl, _, Eq.trans (World.drewN_drewN _ _ _) (congrArg (World.drewN _) (Nat.add_assoc _ _ _))⟩)) | (go_at_call 39; (with_reducible refine (impl_within.calls (zwd a0) 913 969 false _ A20.out).mono ?_); rintro e w' ⟨rfl, ⟨nd, rfl⟩⟩; (try first | exact ⟨rfl, _, World.drewN_drewN _ _ _⟩ | exact ⟨rfl, _, Eq.trans (World.drewN_drewN _ _ _) (congrArg (World.drewN _) (Nat.add_assoc _ _ _))⟩)) | (go_at_call 39; (with_reducible refine (impl_within.calls (zwd a0) 1040 1103 t109 _ A22.out).mono ?_); rintro e w' ⟨rfl, ⟨nd, rfl⟩⟩; (try first | exact ⟨rfl, _, World.drewN_drewN _ _ _⟩ | exact ⟨rfl, _, Eq.trans (World.drewN_drewN _ _ _) (congrArg (World.drewN _) (Nat.add_assoc _ _ _))⟩)))
    repeat (go_quiet (first | (go_at_call 39; (with_reducible refine (impl_within.calls (zwd a0) 192 591 true _ A17.out).mono ?_); rintro e w' ⟨rfl, ⟨nd, rfl⟩⟩; (try first | exact ⟨rfl, _, World.drewN_drewN _ _ _⟩ | exact ⟨rfl, _, Eq.trans (World.drewN_drewN _ _ _) (congrArg (World.drewN _) (Nat.add_assoc _ _ _))⟩)) | (go_at_call 39; (with_reducible refine (impl_within.calls (zwd a0) 913 969 false _ A20.out).mono ?_); rintro e w' ⟨rfl, ⟨nd, rfl⟩⟩; (try first | exact ⟨rfl, _, World.drewN_drewN _ _ _⟩ | exact ⟨rfl, _, Eq.trans (World.drewN_drewN _ _ _) (congrArg (World.drewN _) (Nat.add_assoc _ _ _))⟩)) | (go_at_call 39; (with_reducible refine (impl_within.calls (zwd a0) 1040 1103 t109 _ A22.out).mono ?_); rintro e w' ⟨rfl, ⟨nd, rfl⟩⟩; (try first | exact ⟨rfl, _, World.drewN_drewN _ _ _⟩ | exact ⟨rfl, _, Eq.trans (World.drewN_drewN _ _ _) (congrArg (World.drewN _) (Nat.add_assoc _ _ _))⟩))); try go_wp2_with (first | (go_at_call 39; (with_reducible refine (impl_within.calls (zwd a0) 192 591 true _ A17.out).mono ?_); rintro e w' ⟨rfl, ⟨nd, rfl⟩⟩; (try first | exact ⟨rfl, _, World.drewN_drewN _ _ _⟩ | exact ⟨rfl, _, Eq.trans (World.drewN_drewN _ _ _) (congrArg (World.drewN _) (Nat.add_assoc _ _ _))⟩)) | (go_at_call 39; (with_reducible refine (impl_within.calls (zwd a0) 913 969 false _ A20.out).mono ?_); rintro e w' ⟨rfl, ⟨nd, rfl⟩⟩; (try first | exact ⟨rfl, _, World.drewN_drewN _ _ _⟩ | exact ⟨rfl, _, Eq.trans (World.drewN_drewN _ _ _) (congrArg (World.drewN _) (Nat.add_assoc _ _ _))⟩)) | (go_at_call 39; (with_reducible refine (impl_within.calls (zwd a0) 1040 1103 t109 _ A22.out).mono ?_); rintro e w' ⟨rfl, ⟨nd, rfl⟩⟩; (try first | exact ⟨rfl, _, World.drewN_drewN _ _ _⟩ | exact ⟨rfl, _, Eq.trans (World.drewN_drewN _ _ _) (congrArg (World.drewN _) (Nat.add_assoc _ _ _))⟩))))
    go_ret
    exact zH49
   rw [if_neg c19] at H
   have c19b0 : ((zwd a0) == 215) = false := beq_eq_false_iff_ne.mpr c19
   have c19b1 : ((zwd a0) != 215) = true := bne_iff_ne.mpr c19
   by_cases c23 : (zwd a0) = 247
   rotate_left
   ·rw [if_neg c23] at H
    have c23b0 : ((zwd a0) == 247) = false := beq_eq_false_iff_ne.mpr c23
    have c23b1 : ((zwd a0) != 247) = true := bne_iff_ne.mpr c23
    obtain rfl := Option.some.inj H
    have p14 : 0 ≤ (0 : Int) := (by omega)
    have q14 : 0 < a0.size := (by have : (0 : Int) < (a0.size : Int) := zO; omega)
    have hx14 : ∀ h : 0 < a0.size, ((a0[0]'h).toNat : Int) = bt a0 0 := bt_at a0 0
    clear p14
    have qi14 : (0 < (a0.size : Int)) = True := eq_true zO
    replace q14 := eq_true q14
    have p16 : 0 ≤ (1 : Int) := (by omega)
    have q16 : 1 < a0.size := (by have : (1 : Int) < (a0.size : Int) := zO; omega)
    have hx16 : ∀ h : 1 < a0.size, ((a0[1]'h).toNat : Int) = bt a0 1 := bt_at a0 1
    clear p16
    have qi16 : (1 < (a0.size : Int)) = True := eq_true zO
    replace q16 := eq_true q16
    go_wp2_with (first | (go_at_call 39; (with_reducible refine (impl_within.calls (zwd a0) 192 591 true _ A17.out).mono ?_); rintro e w' ⟨rfl, ⟨nd, rfl⟩⟩; (try first | exact ⟨rfl, _, World.drewN_drewN _ _ _⟩ | exact ⟨rfl, _, Eq.trans (World.drewN_drewN _ _ _) (congrArg (World.drewN _) (Nat.add_assoc _ _ _))⟩)))
    repeat (go_quiet (first | (go_at_call 39; (with_reducible refine (impl_within.calls (zwd a0) 192 591 true _ A17.out).mono ?_); rintro e w' ⟨rfl, ⟨nd, rfl⟩⟩; (try first | exact ⟨rfl, _, World.drewN_drewN _ _ _⟩ | exact ⟨rfl, _, Eq.trans (World.drewN_drewN _ _ _) (congrArg (World.drewN _) (Nat.add_assoc _ _ _))⟩))); try go_wp2_with (first | (go_at_call 39; (with_reducible refine (impl_within.calls (zwd a0) 192 591 true _ A17.out).mono ?_); rintro e w' ⟨rfl, ⟨nd, rfl⟩⟩; (try first | exact ⟨rfl, _, World.drewN_drewN _ _ _⟩ | exact ⟨rfl, _, Eq.trans (World.drewN_drewN _ _ _) (congrArg (World.drewN _) (Nat.add_assoc _ _ _))⟩))))
    go_ret
    exact zH49
   rw [if_pos c23] at H
   have c23b0 : ((zwd a0) == 247) = true := beq_iff_eq.mpr c23
   have c23b1 : ((zwd a0) != 247) = false := bne_eq_false_iff_eq.mpr c23
   clear c23
   replace H := Option.bind_eq_some_iff.mp H
   obtain ⟨t110, A240, H⟩ := H
   replace H : (if t110 = true then (some true) else ((impl_within.f (zwd a0) 1040 1103).bind fun t111 => (some t111))) = some r := H
   have A24 := za A240
   clear A240
   by_cases c25 : t110 = true
   ·subst c25
    have H1 : (some true) = some r := by rw [if_pos rfl] at H; exact H
    clear H
    have H := H1
    clear H1
    obtain rfl := Option.some.inj H
    have p14 : 0 ≤ (0 : Int) := (by omega)
    have q14 : 0 < a0.size := (by have : (0 : Int) < (a0.size : Int) := zO; omega)
    have hx14 : ∀ h : 0 < a0.size, ((a0[0]'h).toNat : Int) = bt a0 0 := bt_at a0 0
    clear p14
    have qi14 : (0 < (a0.size : Int)) = True := eq_true zO
    replace q14 := eq_true q14
    have p16 : 0 ≤ (1 : Int) := (by omega)
    have q16 : 1 < a0.size := (by have : (1 : Int) < (a0.size : Int) := zO; omega)
    have hx16 : ∀ h : 1 < a0.size, ((a0[1]'h).toNat : Int) = bt a0 1 := bt_at a0 1
    clear p16
    have qi16 : (1 < (a0.size : Int)) = True := eq_true zO
    replace q16 := eq_true q16
    go_wp2_with (first | (go_at_call 39; (with_reducible refine (impl_within.calls (zwd a0) 192 591 true _ A17.out).mono ?_); rintro e w' ⟨rfl, ⟨nd, rfl⟩⟩; (try first | exact ⟨rfl, _, World.drewN_drewN _ _ _⟩ | exact ⟨rfl, _, Eq.trans (World.drewN_drewN _ _ _) (congrArg (World.drewN _) (Nat.add_assoc _ _ _))⟩)) | (go_at_call 39; (with_reducible refine (impl_within.calls (zwd a0) 913 969 true _ A24.out).mono ?_); rintro e w' ⟨rfl, ⟨nd, rfl⟩⟩; (try first | exact ⟨rfl, _, World.drewN_drewN _ _ _⟩ | exact ⟨rfl, _, Eq.trans (World.drewN_drewN _ _ _) (congrArg (World.drewN _) (Nat.add_assoc _ _ _))⟩)))
    repeat (go_quiet (first | (go_at_call 39; (with_reducible refine (impl_within.calls (zwd a0) 192 591 true _ A17.out).mono ?_); rintro e w' ⟨rfl, ⟨nd, rfl⟩⟩; (try first | exact ⟨rfl, _, World.drewN_drewN _ _ _⟩ | exact ⟨rfl, _, Eq.trans (World.drewN_drewN _ _ _) (congrArg (World.drewN _) (Nat.add_assoc _ _ _))⟩)) | (go_at_call 39; (with_reducible refine (impl_within.calls (zwd a0) 913 969 true _ A24.out).mono ?_); rintro e w' ⟨rfl, ⟨nd, rfl⟩⟩; (try first | exact ⟨rfl, _, World.drewN_drewN _ _ _⟩ | exact ⟨rfl, _, Eq.trans (World.drewN_drewN _ _ _) (congrArg (World.drewN _) (Nat.add_assoc _ _ _))⟩))); try go_wp2_with (first | (go_at_call 39; (with_reducible refine (impl_within.calls (zwd a0) 192 591 true _ A17.out).mono ?_); rintro e w' ⟨rfl, ⟨nd, rfl⟩⟩; (try first | exact ⟨rfl, _, World.drewN_drewN _ _ _⟩ | exact ⟨rfl, _, Eq.trans (World.drewN_drewN _ _ _) (congrArg (World.drewN _) (Nat.add_assoc _ _ _))⟩)) | (go_at_call 39; (with_reducible refine (impl_within.calls (zwd a0) 913 969 true _ A24.out).mono ?_); rintro e w' ⟨rfl, ⟨nd, rfl⟩⟩; (try first | exact ⟨rfl, _, World.drewN_drewN _ _ _⟩ | exact ⟨rfl, _, Eq.trans (World.drewN_drewN _ _ _) (congrArg (World.drewN _) (Nat.add_assoc _ _ _))⟩))))
    go_ret
    exact zH49
   replace c25 := Bool.eq_false_iff.mpr c25
   subst c25
   have H1 : ((impl_within.f (zwd a0) 1040 1103).bind fun t111 => (some t111)) = some r := by rw [if_neg (show ¬ (false = true) by decide)] at H; exact H
   clear H
   have H := H1
   clear H1
   replace H := Option.bind_eq_some_iff.mp H
   obtain ⟨t111, A260, H⟩ := H
   replace H : (some t111) = some r := H
   have A26 := za A260
   clear A260
   obtain rfl := Option.some.inj H
   have p14 : 0 ≤ (0 : Int) := (by omega)
   have q14 : 0 < a0.size := (by have : (0 : Int) < (a0.size : Int) := zO; omega)
   have hx14 : ∀ h : 0 < a0.size, ((a0[0]'h).toNat : Int) = bt a0 0 := bt_at a0 0
   clear p14
   have qi14 : (0 < (a0.size : Int)) = True := eq_true zO
   replace q14 := eq_true q14
   have p16 : 0 ≤ (1 : Int) := (by omega)
   have q16 : 1 < a0.size := (by have : (1 : Int) < (a0.size : Int) := zO; omega)
   have hx16 : ∀ h : 1 < a0.size, ((a0[1]'h).toNat : Int) = bt a0 1 := bt_at a0 1
   clear p16
   have qi16 : (1 < (a0.size : Int)) = True := eq_true zO
   replace q16 := eq_true q16
   go_wp2_with (first | (go_at_call 39; (with_reducible refine (impl_within.calls (zwd a0) 192 591 true _ A17.out).mono ?_); rintro e w' ⟨rfl, ⟨nd, rfl⟩⟩; (try first | exact ⟨rfl, _, World.drewN_drewN _ _ _⟩ | exact ⟨rfl, _, Eq.trans (World.drewN_drewN _ _ _) (congrArg (World.drewN _) (Nat.add_assoc _ _ _))⟩)) | (go_at_call 39; (with_reducible refine (impl_within.calls (zwd a0) 913 969 false _ A24.out).mono ?_); rintro e w' ⟨rfl, ⟨nd, rfl⟩⟩; (try first | exact ⟨rfl, _, World.drewN_drewN _ _ _⟩ | exact ⟨rfl, _, Eq.trans (World.drewN_drewN _ _ _) (congrArg (World.drewN _) (Nat.add_assoc _ _ _))⟩)) | (go_at_call 39; (with_reducible refine (impl_within.calls (zwd a0) 1040 1103 t111 _ A26.out).mono ?_); rintro e w' ⟨rfl, ⟨nd, rfl⟩⟩; (try first | exact ⟨rfl, _, World.drewN_drewN _ _ _⟩ | exact ⟨rfl, _, Eq.trans (World.drewN_drewN _ _ _) (congrArg (World.drewN _) (Nat.add_assoc _ _ _))⟩)))
   repeat (go_quiet (first | (go_at_call 39; (with_reducible refine (impl_within.calls (zwd a0) 192 591 true _ A17.out).mono ?_); rintro e w' ⟨rfl, ⟨nd, rfl⟩⟩; (try first | exact ⟨rfl, _, World.drewN_drewN _ _ _⟩ | exact ⟨rfl, _, Eq.trans (World.drewN_drewN _ _ _) (congrArg (World.drewN _) (Nat.add_assoc _ _ _))⟩)) | (go_at_call 39; (with_reducible refine (impl_within.calls (zwd a0) 913 969 false _ A24.out).mono ?_); rintro e w' ⟨rfl, ⟨nd, rfl⟩⟩; (try first | exact ⟨rfl, _, World.drewN_drewN _ _ _⟩ | exact ⟨rfl, _, Eq.trans (World.drewN_drewN _ _ _) (congrArg (World.drewN _) (Nat.add_assoc _ _ _))⟩)) | (go_at_call 39; (with_reducible refine (impl_within.calls (zwd a0) 1040 1103 t111 _ A26.out).mono ?_); rintro e w' ⟨rfl, ⟨nd, rfl⟩⟩; (try first | exact ⟨rfl, _, World.drewN_drewN _ _ _⟩ | exact ⟨rfl, _, Eq.trans (World.drewN_drewN _ _ _) (congrArg (World.drewN _) (Nat.add_assoc _ _ _))⟩))); try go_wp2_with (first | (go_at_call 39; (with_reducible refine (impl_within.calls (zwd a0) 192 591 true _ A17.out).mono ?_); rintro e w' ⟨rfl, ⟨nd, rfl⟩⟩; (try first | exact ⟨rfl, _, World.drewN_drewN _ _ _⟩ | exact ⟨rfl, _, Eq.trans (World.drewN_drewN _ _ _) (congrArg (World.drewN _) (Nat.add_assoc _ _ _))⟩)) | (go_at_call 39; (with_reducible refine (impl_within.calls (zwd a0) 913 969 false _ A24.out).mono ?_); rintro e w' ⟨rfl, ⟨nd, rfl⟩⟩; (try first | exact ⟨rfl, _, World.drewN_drewN _ _ _⟩ | exact ⟨rfl, _, Eq.trans (World.drewN_drewN _ _ _) (congrArg (World.drewN _) (Nat.add_assoc _ _ _))⟩)) | (go_at_call 39; (with_reducible refine (impl_within.calls (zwd a0) 1040 1103 t111 _ A26.out).mono ?_); rintro e w' ⟨rfl, ⟨nd, rfl⟩⟩; (try first | exact ⟨rfl, _, World.drewN_drewN _ _ _⟩ | exact ⟨rfl, _, Eq.trans (World.drewN_drewN _ _ _) (congrArg (World.drewN _) (Nat.add_assoc _ _ _))⟩))))
   go_ret
   exact zH49
end Go.Proofs.Ytnkceaibkfbeaaa.E
