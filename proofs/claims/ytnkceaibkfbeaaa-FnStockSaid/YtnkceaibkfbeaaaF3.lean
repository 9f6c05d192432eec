-- squeezed
-- made by pp.py (wip/tools) out of the translation; Lean checks it
import Derived.Test.YtnkceaibkfbeaaaF0
import Derived.Test.YtnkceaibkfbeaaaF1
import Derived.Test.YtnkceaibkfbeaaaF2
namespace Go.Proofs.Ytnkceaibkfbeaaa.F
open Go.RowKit Go.Proofs.YtnkceaibkfbeaaaW.PrintWords Go.Proofs.YtnkceaibkfbeaaaW.PrintLast Go.Proofs.YtnkceaibkfbeaaaW.PrintMore
attribute [local go_sem] max2_int min2_int max_two min_two max_three min_three max_four min_four   -- for this text's walks alone
set_option linter.unusedVariables false
set_option linter.unusedSimpArgs false

abbrev q3a := @blk_cell
/-! ### spec_StockOf: function 5 -/
def spec_StockOf.f (k : Nat) (l0 : List Int) : Option ((List (S34))) := (spec_l00Source.f l0).bind fun bt203 => ((spec_l00Src_stockActs.f k bt203.1 bt203.2.1 bt203.2.2).bind fun bt207 => (some bt207.1))
theorem spec_StockOf.mono : ∀ a0 k, LeO (spec_StockOf.f k a0) (spec_StockOf.f (k + 1) a0) := by
 intro a0 k
 unfold spec_StockOf.f
 repeat' first
   | (with_reducible exact spec_l00Src_stockActs.mono _ _ _ _)
   | (with_reducible exact LeO.refl _)
   | (with_reducible exact LeO.none _)
   | (with_reducible refine LeO.ite ?_ ?_)
   | (with_reducible refine LeO.bind ?_ (fun _ => ?_))
   | exact spec_l00Src_stockActs.mono _ _ _ _
   | exact LeO.none _
   | refine LeO.ite ?_ ?_
   | refine LeO.bind ?_ (fun _ => ?_)
set_option maxHeartbeats 64000000 in
set_option maxRecDepth 100000 in
theorem spec_StockOf.calls (k : Nat) (A0 : Option Addr) (c0 : Nat) (l0 : List Int) (r : List (S34)) (w : World) (hr0 : Kd.C (Kd.int .u8) w A0 l0.length l0) (hc0 : l0.length ≤ c0) (h : spec_StockOf.f k l0 = some r) :
  Calls Try.prog 5 #[.slice A0 l0.length c0] w fun e w' => ∃ v0_ : Value, e = .returned (v0_) ∧ Kd.R k34 34 w' w.heap.size (fun _ => True) v0_ r ∧ Below w.heap.size w w' := by
 obtain ⟨HR0, HC0, HB⟩ := zD3 hr0 hc0 (Below.refl w.heap.size w)
 clear hr0 hc0
 have H : ((spec_l00Source.f l0).bind fun bt203 => ((spec_l00Src_stockActs.f k bt203.1 bt203.2.1 bt203.2.2).bind fun bt207 => (some bt207.1))) = some r := h
 clear h
 replace H := Option.bind_eq_some_iff.mp H
 obtain ⟨⟨t203, t204, t205⟩, A20, H⟩ := H
 replace H : ((spec_l00Src_stockActs.f k t203 t204 t205).bind fun bt207 => (some bt207.1)) = some r := H
 have A2 := za A20
 clear A20
 replace H := Option.bind_eq_some_iff.mp H
 obtain ⟨⟨t207, t210, t211⟩, A30, H⟩ := H
 replace H : (some t207) = some r := H
 have A3 := za A30
 clear A30
 obtain rfl := Option.some.inj H
 go_enter Try.func5, Try.ntmps5
 go_wp2_with (first | ((with_reducible refine gate_callee (f := 21) rfl ?_); refine goesL_ (some 4) rfl rfl Try.func21 zG69 rfl #[.slice A0 l0.length c0] rfl zG56 ?_; (with_reducible refine (spec_l00Source.calls _ _ l0 t203 t204 t205 w _ ?side1 ?side2 ?side3 A2.out).mono ?_); (case side1 => repeat (first | (with_reducible first | exact HB.out | apply zi | apply zg | apply zh) | exact HB.out)); (case side2 => exact HR0.out); (case side3 => exact HC0.out); rintro e w4 ⟨g206, rfl, hi, hb, hb2⟩; refine ⟨_, rfl, ?_⟩; have n_ := zA_ (za (hb)) (za (hi)); clear HB; obtain ⟨HB, HI206⟩ := n_; (try clear hb); (try clear hb2); (try clear hk); (try clear hi)) | ((with_reducible refine gate_callee (f := 22) rfl ?_); refine goesL_ (some 5) rfl rfl Try.func22 zG69 rfl #[.pointer (some ⟨g206, 0, none⟩)] rfl zG56 ?_; (with_reducible refine (spec_l00Src_stockActs.calls k g206 t203 t204 t205 t207 t210 t211 w _ ?side1 ?side2 A3.out).mono ?_); (case side1 => repeat (first | (with_reducible first | exact HI206.out | apply IsS67.alloc | apply IsS67.drewN | apply IsS67.drew | apply IsS67.set_1 | apply IsS67.set_2) | exact HI206.out)); (case side2 => repeat (first | (with_reducible first | exact HB.out | apply zi | apply zg | apply zh | refine zf ?_ (IsS67.ge HI206.out)) | exact HB.out)); rintro e w5 ⟨v208, rfl, ho0, hi, hb, hk⟩; refine ⟨_, rfl, ?_⟩; have n_ := zA_ (za (zah ho0 (zv (by repeat (first | (with_reducible first | exact HB.out | apply zi | apply zg | apply zh | refine zf ?_ (IsS67.ge HI206.out)) | exact HB.out))))) (zA_ (za (hb)) (za (hi))); clear HB HI206; obtain ⟨HO209, HB, HI206⟩ := n_; (try clear hb); (try clear hb2); (try clear hk); (try clear hi); (try clear ho0)))
 go_ret
 exact ⟨_, zH70, by (with_reducible repeat (first | apply zj | apply zk | apply zl)); exact HO209.out, by repeat (first | (with_reducible first | exact HB.out | apply zi | apply zg | apply zh | refine zf ?_ (IsS67.ge HI206.out)) | exact HB.out)⟩

/-! ### laws_at: function 6 -/
def laws_at.f (l0 : List Int) (a1 : Int) (a2 : Int) : Option (Int) := if a2 ≤ 1 then (some 0) else (if (l0.length : Int) = 0 then (if a2 = 0 then (none) else (some (Int.tmod (wrap64 (a1 * 7)) a2))) else (if 0 ≤ (Int.tmod a1 (l0.length : Int)) then (if (Int.tmod a1 (l0.length : Int)) < (l0.length : Int) then (if 0 ≤ (Int.tmod (wrap64 (a1 + 1)) (l0.length : Int)) then (if (Int.tmod (wrap64 (a1 + 1)) (l0.length : Int)) < (l0.length : Int) then (if a2 = 0 then (none) else (some (Int.tmod (wrap64 ((wrap64 ((wrap64 ((wrap64 (rd l0 (Int.tmod a1 (l0.length : Int)))) * 31)) + (wrap64 (rd l0 (Int.tmod (wrap64 (a1 + 1)) (l0.length : Int)))))) + (wrap64 (Int.tdiv a1 (l0.length : Int))))) a2))) else (none)) else (none)) else (none)) else (none)))
set_option maxHeartbeats 64000000 in
set_option maxRecDepth 100000 in
theorem laws_at.calls (A0 : Option Addr) (c0 : Nat) (l0 : List Int) (a1 : Int) (a2 : Int) (r : Int) (w : World) (hr0 : Kd.C (Kd.int .u8) w A0 l0.length l0) (hc0 : l0.length ≤ c0) (h : laws_at.f l0 a1 a2 = some r) :
  Calls Try.prog 6 #[.slice A0 l0.length c0, .int .i64 a1, .int .i64 a2] w fun e w' => e = .returned (.int .i64 r) ∧ Drawn0 w w' := by
 obtain ⟨HR0, HC0⟩ := zD2 hr0 hc0
 clear hr0 hc0
 have H : (if a2 ≤ 1 then (some 0) else (if (l0.length : Int) = 0 then (if a2 = 0 then (none) else (some (Int.tmod (wrap64 (a1 * 7)) a2))) else (if 0 ≤ (Int.tmod a1 (l0.length : Int)) then (if (Int.tmod a1 (l0.length : Int)) < (l0.length : Int) then (if 0 ≤ (Int.tmod (wrap64 (a1 + 1)) (l0.length : Int)) then (if (Int.tmod (wrap64 (a1 + 1)) (l0.length : Int)) < (l0.length : Int) then (if a2 = 0 then (none) else (some (Int.tmod (wrap64 ((wrap64 ((wrap64 ((wrap64 (rd l0 (Int.tmod a1 (l0.length : Int)))) * 31)) + (wrap64 (rd l0 (Int.tmod (wrap64 (a1 + 1)) (l0.length : Int)))))) + (wrap64 (Int.tdiv a1 (l0.length : Int))))) a2))) else (none)) else (none)) else (none)) else (none)))) = some r := h
 clear h
 by_cases c4 : a2 ≤ 1
 ·rw [if_pos c4] at H
  have c4b0 := decide_eq_true c4
  clear c4
  obtain rfl := Option.some.inj H
  go_enter Try.func6, Try.ntmps6
  go_wp2
  repeat (go_quiet (fail); try go_wp2)
  go_ret
  exact zH51
 rw [if_neg c4] at H
 have c4b0 := decide_eq_false c4
 clear c4
 by_cases c5 : (l0.length : Int) = 0
 ·rw [if_pos c5] at H
  have c5b0 : ((l0.length : Int) == 0) = true := beq_iff_eq.mpr c5
  have c5b1 : ((l0.length : Int) != 0) = false := bne_eq_false_iff_eq.mpr c5
  clear c5
  by_cases c6 : a2 = 0
  ·rw [if_pos c6] at H
   exact absurd H (by simp)
  rw [if_neg c6] at H
  have c6b0 : (a2 == 0) = false := beq_eq_false_iff_ne.mpr c6
  have c6b1 : (a2 != 0) = true := bne_iff_ne.mpr c6
  obtain rfl := Option.some.inj H
  go_enter Try.func6, Try.ntmps6
  go_wp2
  repeat (go_quiet (fail); try go_wp2)
  go_ret
  exact zH51
 rw [if_neg c5] at H
 have c5b0 : ((l0.length : Int) == 0) = false := beq_eq_false_iff_ne.mpr c5
 have c5b1 : ((l0.length : Int) != 0) = true := bne_iff_ne.mpr c5
 have c5b2 : ¬ (l0 = []) := fun h_ => c5 (by rw [h_]; rfl)
 obtain ⟨ji7, hji7⟩ : ∃ j_ : Int, (Int.tmod a1 (l0.length : Int)) = j_ := ⟨_, rfl⟩
 replace H : (if 0 ≤ (ji7) then (if (ji7) < (l0.length : Int) then (if 0 ≤ (Int.tmod (wrap64 (a1 + 1)) (l0.length : Int)) then (if (Int.tmod (wrap64 (a1 + 1)) (l0.length : Int)) < (l0.length : Int) then (if a2 = 0 then (none) else (some (Int.tmod (wrap64 ((wrap64 ((wrap64 ((wrap64 (rd l0 (ji7))) * 31)) + (wrap64 (rd l0 (Int.tmod (wrap64 (a1 + 1)) (l0.length : Int)))))) + (wrap64 (Int.tdiv a1 (l0.length : Int))))) a2))) else (none)) else (none)) else (none)) else (none)) = some r := by first | (rw [hji7] at H; exact H) | (simp only [hji7] at H ⊢; exact H)
 by_cases c8 : 0 ≤ (ji7)
 rotate_left
 ·rw [if_neg c8] at H
  exact absurd H (by simp)

 rw [if_pos c8] at H
 have c8b0 := decide_eq_true c8
 clear c8
 by_cases c9 : (ji7) < (l0.length : Int)
 rotate_left
 ·rw [if_neg c9] at H
  exact absurd H (by simp)
 rw [if_pos c9] at H
 have c9b0 := decide_eq_true c9
 clear c9
 obtain ⟨ji10, hji10⟩ : ∃ j_ : Int, (Int.tmod (wrap64 (a1 + 1)) (l0.length : Int)) = j_ := ⟨_, rfl⟩
 replace H : (if 0 ≤ (ji10) then (if (ji10) < (l0.length : Int) then (if a2 = 0 then (none) else (some (Int.tmod (wrap64 ((wrap64 ((wrap64 ((wrap64 (rd l0 (ji7))) * 31)) + (wrap64 (rd l0 (ji10))))) + (wrap64 (Int.tdiv a1 (l0.length : Int))))) a2))) else (none)) else (none)) = some r := by first | (rw [hji10] at H; exact H) | (simp only [hji10] at H ⊢; exact H)
 by_cases c11 : 0 ≤ (ji10)
 rotate_left
 ·rw [if_neg c11] at H
  exact absurd H (by simp)
 rw [if_pos c11] at H
 have c11b0 := decide_eq_true c11
 clear c11
 by_cases c12 : (ji10) < (l0.length : Int)
 rotate_left
 ·rw [if_neg c12] at H
  exact absurd H (by simp)
 rw [if_pos c12] at H
 have c12b0 := decide_eq_true c12
 clear c12
 by_cases c13 : a2 = 0
 ·rw [if_pos c13] at H
  exact absurd H (by simp)
 rw [if_neg c13] at H
 have c13b0 : (a2 == 0) = false := beq_eq_false_iff_ne.mpr c13
 have c13b1 : (a2 != 0) = true := bne_iff_ne.mpr c13
 obtain rfl := Option.some.inj H
 have p212 : 0 ≤ ((ji7) : Int) := zO
 have q212 : (ji7) < (l0.length : Int) := zO
 obtain ⟨ad212, e212, hx212_0⟩ := zap HR0.out (ji7) p212 q212
 cases e212
 replace p212 := eq_true p212
 replace q212 := eq_true q212
 have p213 : 0 ≤ ((ji10) : Int) := zO
 have q213 : (ji10) < (l0.length : Int) := zO
 obtain ⟨ad213, e213, hx213_0⟩ := zap HR0.out (ji10) p213 q213
 obtain rfl : ad212 = ad213 := (by injection e213)
 replace p213 := eq_true p213
 replace q213 := eq_true q213
 go_enter Try.func6, Try.ntmps6
 go_wp2
 repeat (go_quiet (fail); try go_wp2)
 go_ret
 exact ⟨by first | rfl | (simp; done) | (simp only [← hji7, ← hji10] <;> (first | rfl | simp)) | (simp [*]; done), zH77⟩
/-! ### impl_StockAct: function 23 -/
def impl_StockAct.f (l0 : List (S34)) : Option (Bool) := some (decide ((l0.length : Int) ≤ 4096))
set_option maxHeartbeats 64000000 in
set_option maxRecDepth 100000 in
theorem impl_StockAct.calls (A0 : Option Addr) (c0 : Nat) (l0 : List (S34)) (r : Bool) (w : World) (hr0 : Kd.C k34 w A0 l0.length l0) (hc0 : l0.length ≤ c0) (h : impl_StockAct.f l0 = some r) :
  Calls Try.prog 23 #[.slice A0 l0.length c0] w fun e w' => e = .returned (.bool r) ∧ Drawn0 w w' := by
 obtain ⟨HR0, HC0⟩ := zD2 hr0 hc0
 clear hr0 hc0
 have H : (some (decide ((l0.length : Int) ≤ 4096))) = some r := h
 clear h
 obtain rfl := Option.some.inj H
 go_enter Try.func23, Try.ntmps23
 go_wp2
 go_ret
 exact zH51

/-! ### impl_Stock_lotAt_1: function 62 -/
def impl_Stock_lotAt_1.f (a0_0 : ByteArray) (a0_1 : Int) (a0_2 : Int) (a0_3 : Int) (a0_4 : Bool) (a1_0 : ByteArray) (a2_0 : Int) : Option (Bool) := if a0_0.toList = a1_0.toList then (some (a0_1 == a2_0)) else (some false)
set_option maxHeartbeats 64000000 in
set_option maxRecDepth 100000 in
theorem impl_Stock_lotAt_1.calls (a0_0 : ByteArray) (a0_1 : Int) (a0_2 : Int) (a0_3 : Int) (a0_4 : Bool) (gc1_0 : Nat) (a1_0 : ByteArray) (gc2_0 : Nat) (a2_0 : Int) (r : Bool) (w : World) (hk1_0 : w.heap[gc1_0]? = some (.cells #[.string a1_0] 9 (0, 0))) (hk2_0 : w.heap[gc2_0]? = some (.cells #[.int .i64 a2_0] 3 (0, 0))) (h : impl_Stock_lotAt_1.f a0_0 a0_1 a0_2 a0_3 a0_4 a1_0 a2_0 = some r) :
  Calls Try.prog 62 #[.agg (zl5 a0_0 a0_1 a0_2 a0_3 a0_4), .pointer (some ⟨gc1_0, 0, none⟩), .pointer (some ⟨gc2_0, 0, none⟩)] w fun e w' => e = .returned (.bool r) ∧ Below w.heap.size w w' := by
 have hu38 := Try.underlying38
 obtain ⟨BK1, BK2, HB⟩ := zD3 hk1_0 hk2_0 (Below.refl w.heap.size w)
 clear hk1_0 hk2_0
 have H : (if a0_0.toList = a1_0.toList then (some (a0_1 == a2_0)) else (some false)) = some r := h
 clear h
 by_cases c4 : a0_0.toList = a1_0.toList
 rotate_left
 ·rw [if_neg c4] at H
  have c4b0 : (a0_0.toList == a1_0.toList) = false := beq_eq_false_iff_ne.mpr c4
  have c4b1 : (a0_0.toList != a1_0.toList) = true := bne_iff_ne.mpr c4
  obtain rfl := Option.some.inj H
  go_enter Try.func62, Try.ntmps62
  go_wp2_with (first | ((with_reducible refine gate_dst (N := 3) rfl ?_); refine box_event ?hg (N := 3) ?hd (cs := (zl5 a0_0 a0_1 a0_2 a0_3 a0_4)) (t := 38) ?hr ?_; (case hd => rfl); (case hg => rfl); (case hr => exact zH81); intro gb214 hg w11 hbox hb; have n_ := zA_ (za (zq (g := gc1_0) (o := .cells #[.string a1_0] 9 (0, 0)) zK143 hb)) (zA_ (za (zq (g := gc2_0) (o := .cells #[.int .i64 a2_0] 3 (0, 0)) zK144 hb)) (zA_ (za (zu zK127 hb)) (zA_ (za (hbox)) (zA_ (zN1 w.heap.size hg (zv zK127)) (zA_ (zN1 w.heap.size hg (zv zK127)) (zN3 hg (zx (g := gc1_0) (o := .cells #[.string a1_0] 9 (0, 0)) zK143) (zN2 hg (zx (g := gc2_0) (o := .cells #[.int .i64 a2_0] 3 (0, 0)) zK144)))))))); clear BK1 BK2 HB; obtain ⟨BK1, BK2, HB, BK214, GW214, GE214, NB1_214, NB214_1, NB2_214, NB214_2⟩ := n_; clear hb hbox hg; have hnb12 := NB214_1.out; have hnc12 := NB1_214.out; have hnb13 := NB214_2.out; have hnc13 := NB2_214.out; have hcz14_0 : w11.cell? ⟨gb214, 0, none⟩ = some (.string a0_0) := (q3a BK214.out 0).trans rfl; have hcz14_1 : w11.cell? ⟨gb214, 1, none⟩ = some (.int .i64 a0_1) := (q3a BK214.out 1).trans rfl; have hcz14_2 : w11.cell? ⟨gb214, 2, none⟩ = some (.int .i64 a0_2) := (q3a BK214.out 2).trans rfl; have hcz14_3 : w11.cell? ⟨gb214, 3, none⟩ = some (.int .i64 a0_3) := (q3a BK214.out 3).trans rfl; have hcz14_4 : w11.cell? ⟨gb214, 4, none⟩ = some (.bool a0_4) := (q3a BK214.out 4).trans rfl; have hfz14_0 := zd BK214.out 0; have hfz14_1 := zd BK214.out 1; have hfz14_2 := zd BK214.out 2; have hfz14_3 := zd BK214.out 3; have hfz14_4 := zd BK214.out 4; have hcz15_0 : w11.cell? ⟨gc1_0, 0, none⟩ = some (.string a1_0) := (q3a BK1.out 0).trans rfl; have hfz15_0 := zd BK1.out 0))
  go_ret
  exact zH16

 rw [if_pos c4] at H
 have c4b0 : (a0_0.toList == a1_0.toList) = true := beq_iff_eq.mpr c4
 have c4b1 : (a0_0.toList != a1_0.toList) = false := bne_eq_false_iff_eq.mpr c4
 clear c4
 obtain rfl := Option.some.inj H
 go_enter Try.func62, Try.ntmps62
 go_wp2_with (first | ((with_reducible refine gate_dst (N := 3) rfl ?_); refine box_event ?hg (N := 3) ?hd (cs := (zl5 a0_0 a0_1 a0_2 a0_3 a0_4)) (t := 38) ?hr ?_; (case hd => rfl); (case hg => rfl); (case hr => exact zH81); intro gb214 hg w5 hbox hb; have n_ := zA_ (za (zq (g := gc1_0) (o := .cells #[.string a1_0] 9 (0, 0)) zK143 hb)) (zA_ (za (zq (g := gc2_0) (o := .cells #[.int .i64 a2_0] 3 (0, 0)) zK144 hb)) (zA_ (za (zu zK127 hb)) (zA_ (za (hbox)) (zA_ (zN1 w.heap.size hg (zv zK127)) (zA_ (zN1 w.heap.size hg (zv zK127)) (zN3 hg (zx (g := gc1_0) (o := .cells #[.string a1_0] 9 (0, 0)) zK143) (zN2 hg (zx (g := gc2_0) (o := .cells #[.int .i64 a2_0] 3 (0, 0)) zK144)))))))); clear BK1 BK2 HB; obtain ⟨BK1, BK2, HB, BK214, GW214, GE214, NB1_214, NB214_1, NB2_214, NB214_2⟩ := n_; clear hb hbox hg; have hnb6 := NB214_1.out; have hnc6 := NB1_214.out; have hnb7 := NB214_2.out; have hnc7 := NB2_214.out; have hcz8_0 : w5.cell? ⟨gb214, 0, none⟩ = some (.string a0_0) := (q3a BK214.out 0).trans rfl; have hcz8_1 : w5.cell? ⟨gb214, 1, none⟩ = some (.int .i64 a0_1) := (q3a BK214.out 1).trans rfl; have hcz8_2 : w5.cell? ⟨gb214, 2, none⟩ = some (.int .i64 a0_2) := (q3a BK214.out 2).trans rfl; have hcz8_3 : w5.cell? ⟨gb214, 3, none⟩ = some (.int .i64 a0_3) := (q3a BK214.out 3).trans rfl; have hcz8_4 : w5.cell? ⟨gb214, 4, none⟩ = some (.bool a0_4) := (q3a BK214.out 4).trans rfl; have hfz8_0 := zd BK214.out 0; have hfz8_1 := zd BK214.out 1; have hfz8_2 := zd BK214.out 2; have hfz8_3 := zd BK214.out 3; have hfz8_4 := zd BK214.out 4; have hcz9_0 : w5.cell? ⟨gc1_0, 0, none⟩ = some (.string a1_0) := (q3a BK1.out 0).trans rfl; have hfz9_0 := zd BK1.out 0; have hcz10_0 : w5.cell? ⟨gc2_0, 0, none⟩ = some (.int .i64 a2_0) := (q3a BK2.out 0).trans rfl; have hfz10_0 := zd BK2.out 0))
 go_ret
 exact zH16
/-! ### slices_IndexFunc_at_impl_Stock_lotAt_1: function 500000 -/
def slices_IndexFunc_at_impl_Stock_lotAt_1.l0 : Nat → List (S38) → Int → Int → ByteArray → Int → Option (Int)
 | 0, _, _, _, _, _ => none
 | k + 1, x0, x7, x8, x29000, x30000 => if x8 < x7 then (if 0 ≤ x8 then (if x8 < (x0.length : Int) then ((impl_Stock_lotAt_1.f ((rd_T38 x0 x8).f0) ((rd_T38 x0 x8).f1) ((rd_T38 x0 x8).f2) ((rd_T38 x0 x8).f3) ((rd_T38 x0 x8).f4) x29000 x30000).bind fun t216 => (if t216 = true then (some x8) else (slices_IndexFunc_at_impl_Stock_lotAt_1.l0 k x0 x7 (wrap64 (x8 + 1)) x29000 x30000))) else (none)) else (none)) else (some (-1))
def slices_IndexFunc_at_impl_Stock_lotAt_1.f (k : Nat) (l0 : List (S38)) (a1_0 : ByteArray) (a1_1 : Int) : Option (Int) := slices_IndexFunc_at_impl_Stock_lotAt_1.l0 k l0 (l0.length : Int) 0 a1_0 a1_1
theorem slices_IndexFunc_at_impl_Stock_lotAt_1.mono_l : ∀ k, (∀ y0 y1 y2 y3 y4, LeO (slices_IndexFunc_at_impl_Stock_lotAt_1.l0 k y0 y1 y2 y3 y4) (slices_IndexFunc_at_impl_Stock_lotAt_1.l0 (k + 1) y0 y1 y2 y3 y4))
 | 0 => fun _ _ _ _ _ r h => by simp [slices_IndexFunc_at_impl_Stock_lotAt_1.l0] at h
 | k + 1 => by
  have ih0 := slices_IndexFunc_at_impl_Stock_lotAt_1.mono_l k
  ·intro y0 y1 y2 y3 y4
   unfold slices_IndexFunc_at_impl_Stock_lotAt_1.l0
   repeat' first
   | (with_reducible exact ih0 _ _ _ _ _)
   | (with_reducible exact LeO.refl _)
   | (with_reducible exact LeO.none _)
   | (with_reducible refine LeO.ite ?_ ?_)
   | (with_reducible refine LeO.bind ?_ (fun _ => ?_))
   | exact ih0 _ _ _ _ _
   | exact LeO.none _
   | refine LeO.ite ?_ ?_
   | refine LeO.bind ?_ (fun _ => ?_)
theorem slices_IndexFunc_at_impl_Stock_lotAt_1.mono : ∀ a0 a1 a2 k, LeO (slices_IndexFunc_at_impl_Stock_lotAt_1.f k a0 a1 a2) (slices_IndexFunc_at_impl_Stock_lotAt_1.f (k + 1) a0 a1 a2) := by
 intro a0 a1 a2 k
 have ih0 := slices_IndexFunc_at_impl_Stock_lotAt_1.mono_l k
 unfold slices_IndexFunc_at_impl_Stock_lotAt_1.f
 repeat' first
   | (with_reducible exact ih0 _ _ _ _ _)
   | (with_reducible exact LeO.refl _)
   | (with_reducible exact LeO.none _)
   | (with_reducible refine LeO.ite ?_ ?_)
   | (with_reducible refine LeO.bind ?_ (fun _ => ?_))
   | exact ih0 _ _ _ _ _
   | exact LeO.none _
   | refine LeO.ite ?_ ?_
   | refine LeO.bind ?_ (fun _ => ?_)
set_option maxHeartbeats 64000000 in
set_option maxRecDepth 100000 in
theorem slices_IndexFunc_at_impl_Stock_lotAt_1.calls (k : Nat) (A0 : Option Addr) (c0 : Nat) (l0 : List (S38)) (gc1_0 : Nat) (a1_0 : ByteArray) (gc1_1 : Nat) (a1_1 : Int) (r : Int) (w : World) (hr0 : Kd.C k38 w A0 l0.length l0) (hc0 : l0.length ≤ c0) (hk1_0 : w.heap[gc1_0]? = some (.cells #[.string a1_0] 9 (0, 0))) (hk1_1 : w.heap[gc1_1]? = some (.cells #[.int .i64 a1_1] 3 (0, 0))) (h : slices_IndexFunc_at_impl_Stock_lotAt_1.f k l0 a1_0 a1_1 = some r) :
  Calls Try.prog 61 #[.slice A0 l0.length c0, .func (.func 62) #[] #[.pointer (some ⟨gc1_0, 0, none⟩), .pointer (some ⟨gc1_1, 0, none⟩)]] w fun e w' => e = .returned (.int .i64 r) ∧ Below w.heap.size w w' := by
 have hu38 := Try.underlying38
 obtain ⟨HR0, HC0, BK28, BK29, HB⟩ := zD5 hr0 hc0 hk1_0 hk1_1 (Below.refl w.heap.size w)
 clear hr0 hc0 hk1_0 hk1_1
 have H : (slices_IndexFunc_at_impl_Stock_lotAt_1.l0 k l0 (l0.length : Int) 0 a1_0 a1_1) = some r := h
 clear h
 have H' := za H
 clear H
 go_enter Try.func61, Try.ntmps61
 go_wp2
 go_loopg [8] k (fun kq v8 w' => ∃ (x8_1 : Int), v8 = .int .i64 x8_1 ∧ Aside0 (slices_IndexFunc_at_impl_Stock_lotAt_1.l0 kq l0 (l0.length : Int) x8_1 a1_0 a1_1 = some r) ∧ Aside0 (kq ≤ k) ∧ Aside0 (w'.heap[gc1_0]? = some (.cells #[.string a1_0] 9 (0, 0))) ∧ Aside0 (w'.heap[gc1_1]? = some (.cells #[.int .i64 a1_1] 3 (0, 0))) ∧ Aside0 (Below w.heap.size w w'))
 case atStart => exact ⟨(0), zG68, H', ⟨Nat.le_refl _⟩, ⟨by (with_reducible repeat (first | refine zc ?_ _ | refine ze ?_ | refine zb ?_ _)); exact BK28.out⟩, ⟨by (with_reducible repeat (first | refine zc ?_ _ | refine ze ?_ | refine zb ?_ _)); exact BK29.out⟩, ⟨zH40⟩⟩
 case round =>
  clear H'
  obtain ⟨x8_1, rfl, HA, HK1, BK28, BK29, HB⟩ := hrel
  cases gk with
  | zero => exact absurd HA.out (by simp [slices_IndexFunc_at_impl_Stock_lotAt_1.l0])
  | succ k1 =>
   have H := HA.out
   clear HA
   simp only [slices_IndexFunc_at_impl_Stock_lotAt_1.l0] at H
   by_cases c3 : x8_1 < (l0.length : Int)
   rotate_left
   ·rw [if_neg c3] at H
    have c3b0 := decide_eq_false c3
    clear c3
    obtain rfl := Option.some.inj H
    go_wp2
    go_ret
    exact zH20

   rw [if_pos c3] at H
   have c3b0 := decide_eq_true c3
   clear c3
   by_cases c4 : 0 ≤ x8_1
   rotate_left
   ·rw [if_neg c4] at H
    exact absurd H (by simp)
   rw [if_pos c4] at H
   have c4b0 := decide_eq_true c4
   clear c4
   by_cases c5 : x8_1 < (l0.length : Int)
   rotate_left
   ·rw [if_neg c5] at H
    exact absurd H (by simp)
   rw [if_pos c5] at H
   have c5b0 := decide_eq_true c5
   clear c5
   replace H := Option.bind_eq_some_iff.mp H
   obtain ⟨t216, A60, H⟩ := H
   replace H : (if t216 = true then (some x8_1) else (slices_IndexFunc_at_impl_Stock_lotAt_1.l0 k1 l0 (l0.length : Int) (wrap64 (x8_1 + 1)) a1_0 a1_1)) = some r := H
   have A6 := za A60
   clear A60
   by_cases c7 : t216 = true
   ·subst c7
    have H1 : (some x8_1) = some r := by rw [if_pos rfl] at H; exact H
    clear H
    have H := H1
    clear H1
    obtain rfl := Option.some.inj H
    have p215 : 0 ≤ (x8_1 : Int) := zO
    have q215 : x8_1 < (l0.length : Int) := zO
    obtain ⟨ad215, e215, hx215_0, hx215_1, hx215_2, hx215_3, hx215_4⟩ := at_T38 HR0.out x8_1 p215 q215
    cases e215
    replace hx215_0 := (HB.out.cell (zo w _ hx215_0)).trans hx215_0
    replace hx215_1 := (HB.out.cell (zo w _ hx215_1)).trans hx215_1
    replace hx215_2 := (HB.out.cell (zo w _ hx215_2)).trans hx215_2
    replace hx215_3 := (HB.out.cell (zo w _ hx215_3)).trans hx215_3
    replace hx215_4 := (HB.out.cell (zo w _ hx215_4)).trans hx215_4
    replace p215 := eq_true p215
    replace q215 := eq_true q215
    go_wp2_with (first | (go_at_call 62; (with_reducible refine (impl_Stock_lotAt_1.calls ((rd_T38 l0 x8_1).f0) ((rd_T38 l0 x8_1).f1) ((rd_T38 l0 x8_1).f2) ((rd_T38 l0 x8_1).f3) ((rd_T38 l0 x8_1).f4) gc1_0 a1_0 gc1_1 a1_1 true _ ?side1 ?side2 A6.out).mono ?_); (case side1 => exact zH57); (case side2 => exact zH58); rintro e w8 ⟨rfl, hb⟩; have n_ := zA_ (za (zq (g := gc1_0) (o := .cells #[.string a1_0] 9 (0, 0)) (by (with_reducible repeat (first | refine zc ?_ _ | refine ze ?_ | refine zb ?_ _)); exact BK28.out) hb)) (zA_ (za (zq (g := gc1_1) (o := .cells #[.int .i64 a1_1] 3 (0, 0)) (by (with_reducible repeat (first | refine zc ?_ _ | refine ze ?_ | refine zb ?_ _)); exact BK29.out) hb)) (za (zu zK125 hb))); clear BK28 BK29 HB; obtain ⟨BK28, BK29, HB⟩ := n_; (try clear hb)))
    go_ret
    exact zH20
   replace c7 := Bool.eq_false_iff.mpr c7
   subst c7
   have H1 : (slices_IndexFunc_at_impl_Stock_lotAt_1.l0 k1 l0 (l0.length : Int) (wrap64 (x8_1 + 1)) a1_0 a1_1) = some r := by rw [if_neg (show ¬ (false = true) by decide)] at H; exact H
   clear H
   have H := H1
   clear H1
   have H' := za H
   clear H
   have p215 : 0 ≤ (x8_1 : Int) := zO
   have q215 : x8_1 < (l0.length : Int) := zO
   obtain ⟨ad215, e215, hx215_0, hx215_1, hx215_2, hx215_3, hx215_4⟩ := at_T38 HR0.out x8_1 p215 q215
   cases e215
   replace hx215_0 := (HB.out.cell (zo w _ hx215_0)).trans hx215_0
   replace hx215_1 := (HB.out.cell (zo w _ hx215_1)).trans hx215_1
   replace hx215_2 := (HB.out.cell (zo w _ hx215_2)).trans hx215_2
   replace hx215_3 := (HB.out.cell (zo w _ hx215_3)).trans hx215_3
   replace hx215_4 := (HB.out.cell (zo w _ hx215_4)).trans hx215_4
   replace p215 := eq_true p215
   replace q215 := eq_true q215
   go_wp2_with (first | (go_at_call 62; (with_reducible refine (impl_Stock_lotAt_1.calls ((rd_T38 l0 x8_1).f0) ((rd_T38 l0 x8_1).f1) ((rd_T38 l0 x8_1).f2) ((rd_T38 l0 x8_1).f3) ((rd_T38 l0 x8_1).f4) gc1_0 a1_0 gc1_1 a1_1 false _ ?side1 ?side2 A6.out).mono ?_); (case side1 => exact zH57); (case side2 => exact zH58); rintro e w9 ⟨rfl, hb⟩; have n_ := zA_ (za (zq (g := gc1_0) (o := .cells #[.string a1_0] 9 (0, 0)) (by (with_reducible repeat (first | refine zc ?_ _ | refine ze ?_ | refine zb ?_ _)); exact BK28.out) hb)) (zA_ (za (zq (g := gc1_1) (o := .cells #[.int .i64 a1_1] 3 (0, 0)) (by (with_reducible repeat (first | refine zc ?_ _ | refine ze ?_ | refine zb ?_ _)); exact BK29.out) hb)) (za (zu zK125 hb))); clear BK28 BK29 HB; obtain ⟨BK28, BK29, HB⟩ := n_; (try clear hb)))
   go_roundg k1
   case measure => have := HK1.out; omega
   case rel => exact ⟨(wrap64 (x8_1 + 1)), zG68, H', ⟨by have := HK1.out; omega⟩, ⟨by (with_reducible repeat (first | refine zc ?_ _ | refine ze ?_ | refine zb ?_ _)); exact BK28.out⟩, ⟨by (with_reducible repeat (first | refine zc ?_ _ | refine ze ?_ | refine zb ?_ _)); exact BK29.out⟩, ⟨zH40⟩⟩
/-! ### impl_Stock_lotAt: function 50 -/
def impl_Stock_lotAt.f (k : Nat) (a0_0 : Int) (a0_1 : Int) (a0_2 : Int) (a0_3 : Int) (a0_4 : Int) (l0_5 : List (S38)) (a1 : ByteArray) (a2 : Int) : Option (Int × Int × Int × Int × Int × Int × (List (S38))) := (slices_IndexFunc_at_impl_Stock_lotAt_1.f k l0_5 a1 a2).bind fun t219 => (some (t219, a0_0, a0_1, a0_2, a0_3, a0_4, l0_5))
theorem impl_Stock_lotAt.mono : ∀ a0 a1 a2 a3 a4 a5 a6 a7 k, LeO (impl_Stock_lotAt.f k a0 a1 a2 a3 a4 a5 a6 a7) (impl_Stock_lotAt.f (k + 1) a0 a1 a2 a3 a4 a5 a6 a7) := by
 intro a0 a1 a2 a3 a4 a5 a6 a7 k
 unfold impl_Stock_lotAt.f
 repeat' first
   | (with_reducible exact slices_IndexFunc_at_impl_Stock_lotAt_1.mono _ _ _ _)
   | (with_reducible exact LeO.refl _)
   | (with_reducible exact LeO.none _)
   | (with_reducible refine LeO.ite ?_ ?_)
   | (with_reducible refine LeO.bind ?_ (fun _ => ?_))
   | exact slices_IndexFunc_at_impl_Stock_lotAt_1.mono _ _ _ _
   | exact LeO.none _
   | refine LeO.ite ?_ ?_
   | refine LeO.bind ?_ (fun _ => ?_)
set_option maxHeartbeats 64000000 in
set_option maxRecDepth 100000 in
theorem impl_Stock_lotAt.calls (k : Nat) (gi0 : Nat) (a0_0 : Int) (a0_1 : Int) (a0_2 : Int) (a0_3 : Int) (a0_4 : Int) (P0_5_ : Nat → Prop) (u9000_ : Value) (l0_5 : List (S38)) (a1 : ByteArray) (a2 : Int) (r1 : Int) (r2 : Int) (r3 : Int) (r4 : Int) (r5 : Int) (r6 : Int) (r7 : List (S38)) (w0 w : World) (hB : Below w0.heap.size w0 w) (hbk0 : w.heap[gi0]? = some (.cells (zs6 a0_0 a0_1 a0_2 a0_3 a0_4 u9000_) 29 (0, 0))) (hge0 : w0.heap.size ≤ gi0) (ho0_5 : Kd.R k38 38 w w0.heap.size P0_5_ u9000_ l0_5) (h : impl_Stock_lotAt.f k a0_0 a0_1 a0_2 a0_3 a0_4 l0_5 a1 a2 = some (r1, r2, r3, r4, r5, r6, r7)) :
  Calls Try.prog 50 #[.pointer (some ⟨gi0, 0, none⟩), .string a1, .int .i64 a2] w fun e w' => ∃ v6_ : Value, e = .returned (.int .i64 r1) ∧ Kd.R k38 38 w' w0.heap.size (fun k_ => (P0_5_ k_ ∨ w.heap.size ≤ k_)) v6_ r7 ∧ w'.heap[gi0]? = some (.cells (zs6 r2 r3 r4 r5 r6 v6_) 29 (0, 0)) ∧ Below w0.heap.size w0 w' ∧ Kept w w' (fun k_ => (P0_5_ k_) ∨ k_ = gi0) := by
 have hu9 := Try.underlying9
 have hu3 := Try.underlying3
 obtain ⟨HO0_5, BK0, GE0, HK, HW0, HB⟩ := zD6 (show Kd.R k38 38 w w0.heap.size (fun k_ => (P0_5_ k_ ∨ w.heap.size ≤ k_)) u9000_ l0_5 from zn ho0_5 (fun k_ hk => (.inl hk))) hbk0 hge0 (Kept.refl w (fun k_ => (P0_5_ k_) ∨ k_ = gi0)) hB.size hB
 clear hbk0 hge0 hB
 have H : ((slices_IndexFunc_at_impl_Stock_lotAt_1.f k l0_5 a1 a2).bind fun t219 => (some (t219, a0_0, a0_1, a0_2, a0_3, a0_4, l0_5))) = some (r1, r2, r3, r4, r5, r6, r7) := h
 clear h
 replace H := Option.bind_eq_some_iff.mp H
 obtain ⟨t219, A40, H⟩ := H
 replace H : (some (t219, a0_0, a0_1, a0_2, a0_3, a0_4, l0_5)) = some (r1, r2, r3, r4, r5, r6, r7) := H
 have A4 := za A40
 clear A40
 simp only [Option.some.injEq, Prod.mk.injEq] at H
 obtain ⟨rfl, rfl, rfl, rfl, rfl, rfl, rfl⟩ := H
 go_enter Try.func50, Try.ntmps50
 go_wp2_with (first | ((with_reducible refine gate_dst (N := 4) rfl ?_); refine box_event ?hg (N := 4) ?hd (cs := #[.string a1]) (t := 9) ?hr ?_; (case hd => rfl); (case hg => rfl); (case hr => exact zH81); intro gb217 hg w5 hbox hb; have n_ := zA_ (za (zt zK151 hb)) (zA_ (za (zq (g := gi0) (o := .cells (zs6 a0_0 a0_1 a0_2 a0_3 a0_4 u9000_) 29 (0, 0)) zG63 hb)) (zA_ (za (Kept.below (S := (fun k_ => (P0_5_ k_) ∨ k_ = gi0)) zK118 hb)) (zA_ (za (zu zK132 hb)) (zA_ (za (hbox)) (zA_ (zN1 w.heap.size hg zK106) (zA_ (zN1 w0.heap.size hg (zv zK132)) (zN2 hg (zx (g := gi0) (o := .cells (zs6 a0_0 a0_1 a0_2 a0_3 a0_4 u9000_) 29 (0, 0)) zG63)))))))); clear HO0_5 BK0 HK HB; obtain ⟨HO0_5, BK0, HK, HB, BK217, GW217, GE217, NB0_217, NB217_0⟩ := n_; clear hb hbox hg) | ((with_reducible refine gate_dst (N := 5) rfl ?_); refine box_event ?hg (N := 5) ?hd (cs := #[.int .i64 a2]) (t := 3) ?hr ?_; (case hd => rfl); (case hg => rfl); (case hr => exact zH81); intro gb218 hg w6 hbox hb; have n_ := zA_ (za (zt zK151 hb)) (zA_ (za (zq (g := gi0) (o := .cells (zs6 a0_0 a0_1 a0_2 a0_3 a0_4 u9000_) 29 (0, 0)) zG63 hb)) (zA_ (za (zq (g := gb217) (o := .cells #[.string a1] 9 (0, 0)) zK140 hb)) (zA_ (za (Kept.below (S := (fun k_ => (P0_5_ k_) ∨ k_ = gi0)) (by repeat (first | (with_reducible first | exact HK.out | apply Kept.alloc | apply Kept.drewN | apply Kept.drew | refine Kept.setCell ?_ (.inl (Or.inr rfl)) _ | refine Kept.setCell ?_ (.inr GW217.out) _) | exact HK.out)) hb)) (zA_ (za (zu zK126 hb)) (zA_ (za (hbox)) (zA_ (zN1 w.heap.size hg (by first | exact HK.out.1 | exact (show Kept w _ (fun k_ => (P0_5_ k_) ∨ k_ = gi0) from by repeat (first | (with_reducible first | exact HK.out | apply Kept.alloc | apply Kept.drewN | apply Kept.drew | refine Kept.setCell ?_ (.inl (Or.inr rfl)) _ | refine Kept.setCell ?_ (.inr GW217.out) _) | exact HK.out)).1)) (zA_ (zN1 w0.heap.size hg (zv zK126)) (zN3 hg (zx (g := gi0) (o := .cells (zs6 a0_0 a0_1 a0_2 a0_3 a0_4 u9000_) 29 (0, 0)) zG63) (zN2 hg (zx (g := gb217) (o := .cells #[.string a1] 9 (0, 0)) zK140)))))))))); clear HO0_5 BK0 BK217 HK HB; obtain ⟨HO0_5, BK0, BK217, HK, HB, BK218, GW218, GE218, NB0_218, NB218_0, NB217_218, NB218_217⟩ := n_; clear hb hbox hg; have hnb7 := NB0_217.out; have hnc7 := NB217_0.out; have hnb8 := NB0_218.out; have hnc8 := NB218_0.out; have hcz9_0 : w6.cell? ⟨gi0, 0, none⟩ = some (.int .i64 a0_0) := (q3a BK0.out 0).trans rfl; have hcz9_1 : w6.cell? ⟨gi0, 1, none⟩ = some (.int .i64 a0_1) := (q3a BK0.out 1).trans rfl; have hcz9_2 : w6.cell? ⟨gi0, 2, none⟩ = some (.int .i64 a0_2) := (q3a BK0.out 2).trans rfl; have hcz9_3 : w6.cell? ⟨gi0, 3, none⟩ = some (.int .i64 a0_3) := (q3a BK0.out 3).trans rfl; have hcz9_4 : w6.cell? ⟨gi0, 4, none⟩ = some (.int .i64 a0_4) := (q3a BK0.out 4).trans rfl; have hcz9_5 : w6.cell? ⟨gi0, 5, none⟩ = some (u9000_) := (q3a BK0.out 5).trans rfl; have hfz9_0 := zd BK0.out 0; have hfz9_1 := zd BK0.out 1; have hfz9_2 := zd BK0.out 2; have hfz9_3 := zd BK0.out 3; have hfz9_4 := zd BK0.out 4; have hfz9_5 := zd BK0.out 5; obtain ⟨Ao10, co10, eo10⟩ := zab HO0_5.out; subst eo10) | ((with_reducible refine gate_callee (f := 61) rfl ?_); refine goesL_ (some 12) rfl rfl Try.func61 zG69 rfl #[.slice Ao10 l0_5.length co10, .func (.func 62) #[] #[.pointer (some ⟨gb217, 0, none⟩), .pointer (some ⟨gb218, 0, none⟩)]] rfl zG56 ?_; (with_reducible refine (slices_IndexFunc_at_impl_Stock_lotAt_1.calls k _ _ l0_5 gb217 a1 gb218 a2 t219 _ ?side1 ?side2 ?side3 ?side4 A4.out).mono ?_); (case side1 => repeat (first | exact (zy HO0_5.out).2.2 | (with_reducible refine zad ?_ _) | (with_reducible refine zae ?_ _) | (with_reducible refine zaf ?_))); (case side2 => exact (zy HO0_5.out).2.1); (case side3 => exact zK140); (case side4 => exact (by (with_reducible repeat (first | refine zc ?_ _ | refine ze ?_ | refine zb ?_ _)); exact BK218.out)); rintro e w11 ⟨rfl, hb⟩; refine ⟨_, rfl, ?_⟩; have n_ := zA_ (za (zt zK151 hb)) (zA_ (za (zq (g := gi0) (o := .cells (zs6 a0_0 a0_1 a0_2 a0_3 a0_4 (.slice Ao10 l0_5.length co10)) 29 (0, 0)) zG63 hb)) (zA_ (za (zq (g := gb217) (o := .cells #[.string a1] 9 (0, 0)) zK140 hb)) (zA_ (za (zq (g := gb218) (o := .cells #[.int .i64 a2] 3 (0, 0)) (by (with_reducible repeat (first | refine zc ?_ _ | refine ze ?_ | refine zb ?_ _)); exact BK218.out) hb)) (zA_ (za (Kept.below (S := (fun k_ => (P0_5_ k_) ∨ k_ = gi0)) (by repeat (first | (with_reducible first | exact HK.out | apply Kept.alloc | apply Kept.drewN | apply Kept.drew | refine Kept.setCell ?_ (.inl (Or.inr rfl)) _ | refine Kept.setCell ?_ (.inr GW217.out) _ | refine Kept.setCell ?_ (.inr GW218.out) _) | exact HK.out)) hb)) (za (zu (by repeat (first | (with_reducible first | exact HB.out | apply zi | apply zg | apply zh | refine zf ?_ GE0.out | refine zf ?_ GE217.out | refine zf ?_ GE218.out) | exact HB.out)) hb)))))); clear HO0_5 BK0 BK217 BK218 HK HB; obtain ⟨HO0_5, BK0, BK217, BK218, HK, HB⟩ := n_; (try clear hb)))
 go_ret
 exact ⟨_, zH70, zH73, zG63, by repeat (first | (with_reducible first | exact HB.out | apply zi | apply zg | apply zh | refine zf ?_ GE0.out | refine zf ?_ GE217.out | refine zf ?_ GE218.out) | exact HB.out), by repeat (first | (with_reducible first | exact HK.out | apply Kept.alloc | apply Kept.drewN | apply Kept.drew | refine Kept.setCell ?_ (.inl (Or.inr rfl)) _ | refine Kept.setCell ?_ (.inr GW217.out) _ | refine Kept.setCell ?_ (.inr GW218.out) _) | exact HK.out)⟩

/-! ### impl_within: function 39 -/
def impl_within.f (a0 : Int) (a1 : Int) (a2 : Int) : Option (Bool) := if a0 ≥ a1 then (some (decide (a0 ≤ a2))) else (some false)
set_option maxHeartbeats 64000000 in
set_option maxRecDepth 100000 in
theorem impl_within.calls (a0 : Int) (a1 : Int) (a2 : Int) (r : Bool) (w : World) (h : impl_within.f a0 a1 a2 = some r) :
  Calls Try.prog 39 #[.int .i64 a0, .int .i64 a1, .int .i64 a2] w fun e w' => e = .returned (.bool r) ∧ Drawn0 w w' := by
 have H : (if a0 ≥ a1 then (some (decide (a0 ≤ a2))) else (some false)) = some r := h
 clear h
 by_cases c4 : a0 ≥ a1
 ·rw [if_pos c4] at H
  have c4b0 : decide (a1 ≤ a0) = true := decide_eq_true c4
  clear c4
  obtain rfl := Option.some.inj H
  go_enter Try.func39, Try.ntmps39
  go_wp2
  go_ret
  exact zH51
 rw [if_neg c4] at H
 have c4b0 : decide (a1 ≤ a0) = false := decide_eq_false c4
 clear c4
 obtain rfl := Option.some.inj H
 go_enter Try.func39, Try.ntmps39
 go_wp2
 go_ret
 exact zH51

/-! ### impl_isLetter: function 58 -/
def impl_isLetter.f (a0 : Int) : Option (Bool) := if a0 ≥ 97 then (if a0 ≤ 122 then (some true) else (if a0 ≥ 65 then (if a0 ≤ 90 then (some true) else (some (a0 == 95))) else (some (a0 == 95)))) else (if a0 ≥ 65 then (if a0 ≤ 90 then (some true) else (some (a0 == 95))) else (some (a0 == 95)))
set_option maxHeartbeats 64000000 in
set_option maxRecDepth 100000 in
theorem impl_isLetter.calls (a0 : Int) (r : Bool) (w : World) (h : impl_isLetter.f a0 = some r) :
  Calls Try.prog 58 #[.int .u8 a0] w fun e w' => e = .returned (.bool r) ∧ Drawn0 w w' := by
 have H : (if a0 ≥ 97 then (if a0 ≤ 122 then (some true) else (if a0 ≥ 65 then (if a0 ≤ 90 then (some true) else (some (a0 == 95))) else (some (a0 == 95)))) else (if a0 ≥ 65 then (if a0 ≤ 90 then (some true) else (some (a0 == 95))) else (some (a0 == 95)))) = some r := h
 clear h
 by_cases c2 : a0 ≥ 97
 rotate_left
 ·rw [if_neg c2] at H
  have c2b0 : decide (97 ≤ a0) = false := decide_eq_false c2
  clear c2
  by_cases c6 : a0 ≥ 65
  rotate_left
  ·rw [if_neg c6] at H
   have c6b0 : decide (65 ≤ a0) = false := decide_eq_false c6
   clear c6
   obtain rfl := Option.some.inj H
   go_enter Try.func58, Try.ntmps58
   go_wp2
   go_ret
   exact zH51

  rw [if_pos c6] at H
  have c6b0 : decide (65 ≤ a0) = true := decide_eq_true c6
  clear c6
  by_cases c7 : a0 ≤ 90
  rotate_left
  ·rw [if_neg c7] at H
   have c7b0 := decide_eq_false c7
   clear c7
   obtain rfl := Option.some.inj H
   go_enter Try.func58, Try.ntmps58
   go_wp2
   go_ret
   exact zH51
  rw [if_pos c7] at H
  have c7b0 := decide_eq_true c7
  clear c7
  obtain rfl := Option.some.inj H
  go_enter Try.func58, Try.ntmps58
  go_wp2
  go_ret
  exact zH51
 rw [if_pos c2] at H
 have c2b0 : decide (97 ≤ a0) = true := decide_eq_true c2
 clear c2
 by_cases c3 : a0 ≤ 122
 ·rw [if_pos c3] at H
  have c3b0 := decide_eq_true c3
  clear c3
  obtain rfl := Option.some.inj H
  go_enter Try.func58, Try.ntmps58
  go_wp2
  go_ret
  exact zH51
 rw [if_neg c3] at H
 have c3b0 := decide_eq_false c3
 clear c3
 by_cases c4 : a0 ≥ 65
 rotate_left
 ·rw [if_neg c4] at H
  have c4b0 : decide (65 ≤ a0) = false := decide_eq_false c4
  clear c4
  obtain rfl := Option.some.inj H
  go_enter Try.func58, Try.ntmps58
  go_wp2
  go_ret
  exact zH51
 rw [if_pos c4] at H
 have c4b0 : decide (65 ≤ a0) = true := decide_eq_true c4
 clear c4
 by_cases c5 : a0 ≤ 90
 rotate_left
 ·rw [if_neg c5] at H
  have c5b0 := decide_eq_false c5
  clear c5
  obtain rfl := Option.some.inj H
  go_enter Try.func58, Try.ntmps58
  go_wp2
  go_ret
  exact zH51
 rw [if_pos c5] at H
 have c5b0 := decide_eq_true c5
 clear c5
 obtain rfl := Option.some.inj H
 go_enter Try.func58, Try.ntmps58
 go_wp2
 go_ret
 exact zH51
/-! ### impl_isDigit: function 59 -/
def impl_isDigit.f (a0 : Int) : Option (Bool) := if a0 ≥ 48 then (some (decide (a0 ≤ 57))) else (some false)
set_option maxHeartbeats 64000000 in
set_option maxRecDepth 100000 in
theorem impl_isDigit.calls (a0 : Int) (r : Bool) (w : World) (h : impl_isDigit.f a0 = some r) :
  Calls Try.prog 59 #[.int .u8 a0] w fun e w' => e = .returned (.bool r) ∧ Drawn0 w w' := by
 have H : (if a0 ≥ 48 then (some (decide (a0 ≤ 57))) else (some false)) = some r := h
 clear h
 by_cases c2 : a0 ≥ 48
 ·rw [if_pos c2] at H
  have c2b0 : decide (48 ≤ a0) = true := decide_eq_true c2
  clear c2
  obtain rfl := Option.some.inj H
  go_enter Try.func59, Try.ntmps59
  go_wp2
  go_ret
  exact zH51
 rw [if_neg c2] at H
 have c2b0 : decide (48 ≤ a0) = false := decide_eq_false c2
 clear c2
 obtain rfl := Option.some.inj H
 go_enter Try.func59, Try.ntmps59
 go_wp2
 go_ret
 exact zH51

end Go.Proofs.Ytnkceaibkfbeaaa.F
