-- squeezed
-- made by pp.py (wip/tools) out of the translation; Lean checks it
import Derived.Test.YtnkceaibkfbeaaaE0
import Derived.Test.YtnkceaibkfbeaaaE18
namespace Go.Proofs.Ytnkceaibkfbeaaa.E
open Go.RowKit Go.Proofs.YtnkceaibkfbeaaaW.PrintWords Go.Proofs.YtnkceaibkfbeaaaW.PrintLast Go.Proofs.YtnkceaibkfbeaaaW.PrintMore
attribute [local go_sem] max2_int min2_int max_two min_two max_three min_three max_four min_four   -- for this text's walks alone
set_option linter.unusedVariables false
set_option linter.unusedSimpArgs false

abbrev q19a := @blk_cell
/-! ### laws_heldStock: function 20 -/
def laws_heldStock.f (k : Nat) (a0_0 : Int) (a0_1 : Int) (a0_2 : Int) (a0_3 : Int) (a0_4 : Int) (l0_5 : List (S38)) (a1 : Int) : Option (Int) := (laws_heldStockLotS.f k l0_5 a1).bind fun t349 => (if t349 < 0 then (some (-1)) else (some t349))
theorem laws_heldStock.mono : ∀ a0 a1 a2 a3 a4 a5 a6 k, LeO (laws_heldStock.f k a0 a1 a2 a3 a4 a5 a6) (laws_heldStock.f (k + 1) a0 a1 a2 a3 a4 a5 a6) := by
 intro a0 a1 a2 a3 a4 a5 a6 k
 unfold laws_heldStock.f
 repeat' first
   | (with_reducible exact laws_heldStockLotS.mono _ _ _)
   | (with_reducible exact LeO.refl _)
   | (with_reducible exact LeO.none _)
   | (with_reducible refine LeO.ite ?_ ?_)
   | (with_reducible refine LeO.bind ?_ (fun _ => ?_))
   | exact laws_heldStockLotS.mono _ _ _
   | exact LeO.none _
   | refine LeO.ite ?_ ?_
   | refine LeO.bind ?_ (fun _ => ?_)
set_option maxHeartbeats 64000000 in
set_option maxRecDepth 100000 in
theorem laws_heldStock.calls (k : Nat) (a0_0 : Int) (a0_1 : Int) (a0_2 : Int) (a0_3 : Int) (a0_4 : Int) (A0_5 : Option Addr) (c0_5 : Nat) (l0_5 : List (S38)) (a1 : Int) (r : Int) (w : World) (hr0_5 : Kd.C k38 w A0_5 l0_5.length l0_5) (hc0_5 : l0_5.length ≤ c0_5) (h : laws_heldStock.f k a0_0 a0_1 a0_2 a0_3 a0_4 l0_5 a1 = some r) :
  Calls Try.prog 20 #[.agg (zs6 a0_0 a0_1 a0_2 a0_3 a0_4 (.slice A0_5 l0_5.length c0_5)), .int .i64 a1] w fun e w' => e = .returned (.int .i64 r) ∧ Below w.heap.size w w' := by
 have hu29 := Try.underlying29
 obtain ⟨HR0_5, HC0_5, HB⟩ := zD3 hr0_5 hc0_5 (Below.refl w.heap.size w)
 clear hr0_5 hc0_5
 have H : ((laws_heldStockLotS.f k l0_5 a1).bind fun t349 => (if t349 < 0 then (some (-1)) else (some t349))) = some r := h
 clear h
 replace H := Option.bind_eq_some_iff.mp H
 obtain ⟨t349, A30, H⟩ := H
 replace H : (if t349 < 0 then (some (-1)) else (some t349)) = some r := H
 have A3 := za A30
 clear A30
 by_cases c4 : t349 < 0
 ·rw [if_pos c4] at H
  have c4b0 := decide_eq_true c4
  clear c4
  obtain rfl := Option.some.inj H
  go_enter Try.func20, Try.ntmps20
  go_wp2_with (first | ((with_reducible refine gate_dst (N := 2) rfl ?_); refine box_event ?hg (N := 2) ?hd (cs := (zs6 a0_0 a0_1 a0_2 a0_3 a0_4 (.slice A0_5 l0_5.length c0_5))) (t := 29) ?hr ?_; (case hd => rfl); (case hg => rfl); (case hr => exact zH83); intro gb348 hg w5 hbox hb; have n_ := zA_ (za (zr zG60 hb)) (zA_ (za (hbox)) (zA_ (zN1 w.heap.size hg (zp zG60)) (zN1 w.heap.size hg (zp zG60)))); clear HB; obtain ⟨HB, BK348, GW348, GE348⟩ := n_; clear hb hbox hg; have hcz6_0 : w5.cell? ⟨gb348, 0, none⟩ = some (.int .i64 a0_0) := (q19a BK348.out 0).trans rfl; have hcz6_1 : w5.cell? ⟨gb348, 1, none⟩ = some (.int .i64 a0_1) := (q19a BK348.out 1).trans rfl; have hcz6_2 : w5.cell? ⟨gb348, 2, none⟩ = some (.int .i64 a0_2) := (q19a BK348.out 2).trans rfl; have hcz6_3 : w5.cell? ⟨gb348, 3, none⟩ = some (.int .i64 a0_3) := (q19a BK348.out 3).trans rfl; have hcz6_4 : w5.cell? ⟨gb348, 4, none⟩ = some (.int .i64 a0_4) := (q19a BK348.out 4).trans rfl; have hcz6_5 : w5.cell? ⟨gb348, 5, none⟩ = some (.slice A0_5 l0_5.length c0_5) := (q19a BK348.out 5).trans rfl; have hfz6_0 := zc BK348.out 0; have hfz6_1 := zc BK348.out 1; have hfz6_2 := zc BK348.out 2; have hfz6_3 := zc BK348.out 3; have hfz6_4 := zc BK348.out 4; have hfz6_5 := zc BK348.out 5) | ((with_reducible refine gate_callee (f := 33) rfl ?_); refine goesL_ (some 8) rfl rfl Try.func33 zG83 rfl #[.slice A0_5 l0_5.length c0_5, .int .i64 a1] rfl zG54 ?_; (with_reducible refine (laws_heldStockLotS.calls k _ _ l0_5 a1 t349 _ ?side1 ?side2 A3.out).mono ?_); (case side1 => exact zH39); (case side2 => exact HC0_5.out); rintro e w7 ⟨rfl, hb⟩; refine ⟨_, rfl, ?_⟩; have n_ := zA_ (za (zq (g := gb348) (o := .cells (zs6 a0_0 a0_1 a0_2 a0_3 a0_4 (.slice A0_5 l0_5.length c0_5)) 29 (0, 0)) (by (with_reducible repeat (first | refine zf ?_ _ | refine zg ?_ | refine ze ?_ _)); exact BK348.out) hb)) (za (zr zK149 hb)); clear BK348 HB; obtain ⟨BK348, HB⟩ := n_; (try clear hb)))
  go_ret
  exact zH13
 rw [if_neg c4] at H
 have c4b0 := decide_eq_false c4
 clear c4
 obtain rfl := Option.some.inj H
 go_enter Try.func20, Try.ntmps20
 go_wp2_with (first | ((with_reducible refine gate_dst (N := 2) rfl ?_); refine box_event ?hg (N := 2) ?hd (cs := (zs6 a0_0 a0_1 a0_2 a0_3 a0_4 (.slice A0_5 l0_5.length c0_5))) (t := 29) ?hr ?_; (case hd => rfl); (case hg => rfl); (case hr => exact zH83); intro gb348 hg w8 hbox hb; have n_ := zA_ (za (zr zG60 hb)) (zA_ (za (hbox)) (zA_ (zN1 w.heap.size hg (zp zG60)) (zN1 w.heap.size hg (zp zG60)))); clear HB; obtain ⟨HB, BK348, GW348, GE348⟩ := n_; clear hb hbox hg; have hcz9_0 : w8.cell? ⟨gb348, 0, none⟩ = some (.int .i64 a0_0) := (q19a BK348.out 0).trans rfl; have hcz9_1 : w8.cell? ⟨gb348, 1, none⟩ = some (.int .i64 a0_1) := (q19a BK348.out 1).trans rfl; have hcz9_2 : w8.cell? ⟨gb348, 2, none⟩ = some (.int .i64 a0_2) := (q19a BK348.out 2).trans rfl; have hcz9_3 : w8.cell? ⟨gb348, 3, none⟩ = some (.int .i64 a0_3) := (q19a BK348.out 3).trans rfl; have hcz9_4 : w8.cell? ⟨gb348, 4, none⟩ = some (.int .i64 a0_4) := (q19a BK348.out 4).trans rfl; have hcz9_5 : w8.cell? ⟨gb348, 5, none⟩ = some (.slice A0_5 l0_5.length c0_5) := (q19a BK348.out 5).trans rfl; have hfz9_0 := zc BK348.out 0; have hfz9_1 := zc BK348.out 1; have hfz9_2 := zc BK348.out 2; have hfz9_3 := zc BK348.out 3; have hfz9_4 := zc BK348.out 4; have hfz9_5 := zc BK348.out 5) | ((with_reducible refine gate_callee (f := 33) rfl ?_); refine goesL_ (some 8) rfl rfl Try.func33 zG83 rfl #[.slice A0_5 l0_5.length c0_5, .int .i64 a1] rfl zG54 ?_; (with_reducible refine (laws_heldStockLotS.calls k _ _ l0_5 a1 t349 _ ?side1 ?side2 A3.out).mono ?_); (case side1 => exact zH39); (case side2 => exact HC0_5.out); rintro e w10 ⟨rfl, hb⟩; refine ⟨_, rfl, ?_⟩; have n_ := zA_ (za (zq (g := gb348) (o := .cells (zs6 a0_0 a0_1 a0_2 a0_3 a0_4 (.slice A0_5 l0_5.length c0_5)) 29 (0, 0)) (by (with_reducible repeat (first | refine zf ?_ _ | refine zg ?_ | refine ze ?_ _)); exact BK348.out) hb)) (za (zr zK149 hb)); clear BK348 HB; obtain ⟨BK348, HB⟩ := n_; (try clear hb)))
 go_ret
 exact zH13

end Go.Proofs.Ytnkceaibkfbeaaa.E
