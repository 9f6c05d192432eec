-- squeezed
-- made by pp.py (wip/tools) out of the translation; Lean checks it
import Derived.Test.YtojncbpeeboooaaY0
import Derived.Test.YtojncbpeeboooaaY6
import Derived.Test.YtojncbpeeboooaaY7
namespace Go.Proofs.Ytojncbpeeboooaa.Y
open Go.RowKit Go.Proofs.YtojncbpeeboooaaW.PrintWords Go.Proofs.YtojncbpeeboooaaW.PrintLast Go.Proofs.YtojncbpeeboooaaW.PrintMore
attribute [local go_sem] max2_int min2_int max_two min_two max_three min_three max_four min_four   -- for this text's walks alone
set_option linter.unusedVariables false
set_option linter.unusedSimpArgs false

abbrev b8A0 := zM 7 31
/-! ### impl_BestRoster_1: function 96 -/
mutual
def impl_BestRoster_1.j0 : Nat → List Int → Int → Bool → List (S139) → List (S72) → Bool → List Int → Int → Option (Bool × List Int × Int)
 | 0, _, _, _, _, _, _, _, _ => none
 | k + 1, x0, x7, x32, x2000, x3000, x4000, x5000, x5001 => if x32 = true then (some (x4000, x5000, x5001)) else (if (x0.length : Int) = (x2000.length : Int) then ((slices_Clone_int_int.f x0).bind fun t265 => (some (true, t265, x7))) else (impl_BestRoster_1.l0 k x0 (x3000.length : Int) 0 x2000 x3000 x4000 x5000 x5001))
def impl_BestRoster_1.l0 : Nat → List Int → Int → Int → List (S139) → List (S72) → Bool → List Int → Int → Option (Bool × List Int × Int)
 | 0, _, _, _, _, _, _, _, _ => none
 | k + 1, x0, x14, x15, x2000, x3000, x4000, x5000, x5001 => if x15 < x14 then ((impl_shiftCode.f k x2000 x3000 x0 x15).bind fun t268 => (if t268 = 0 then ((slices_Clone_int_int.f x0).bind fun t269 => ((some (([x15] : List Int) : List Int)).bind fun y272 => (if t269.length + y272.length < 17592186044416 then ((impl_BestRoster_1.f k (t269 ++ y272) x2000 x3000 x4000 x5000 x5001).bind fun bt278 => (impl_BestRoster_1.l0 k x0 x14 (wrap64 (x15 + 1)) x2000 x3000 bt278.1 bt278.2.1 bt278.2.2)) else (none)))) else (impl_BestRoster_1.l0 k x0 x14 (wrap64 (x15 + 1)) x2000 x3000 x4000 x5000 x5001))) else (some (x4000, x5000, x5001))
def impl_BestRoster_1.f : Nat → List Int → List (S139) → List (S72) → Bool → List Int → Int → Option (Bool × List Int × Int)
 | 0, _, _, _, _, _, _ => none
 | k + 1, l0, l1_0, l2_0, a3_0, l4_0, a4_1 => (impl_costOf.f k l1_0 l2_0 l0).bind fun t264 => (if a3_0 = true then (impl_BestRoster_1.j0 k l0 t264 (decide (t264 ≥ a4_1)) l1_0 l2_0 a3_0 l4_0 a4_1) else (impl_BestRoster_1.j0 k l0 t264 false l1_0 l2_0 a3_0 l4_0 a4_1))
end
theorem impl_BestRoster_1.mono_l : ∀ k, (∀ y0 y1 y2 y3 y4 y5, LeO (impl_BestRoster_1.f k y0 y1 y2 y3 y4 y5) (impl_BestRoster_1.f (k + 1) y0 y1 y2 y3 y4 y5)) ∧ (∀ y0 y1 y2 y3 y4 y5 y6 y7, LeO (impl_BestRoster_1.j0 k y0 y1 y2 y3 y4 y5 y6 y7) (impl_BestRoster_1.j0 (k + 1) y0 y1 y2 y3 y4 y5 y6 y7)) ∧ (∀ y0 y1 y2 y3 y4 y5 y6 y7, LeO (impl_BestRoster_1.l0 k y0 y1 y2 y3 y4 y5 y6 y7) (impl_BestRoster_1.l0 (k + 1) y0 y1 y2 y3 y4 y5 y6 y7))
 | 0 => ⟨fun _ _ _ _ _ _ r h => by simp [impl_BestRoster_1.f] at h, fun _ _ _ _ _ _ _ _ r h => by simp [impl_BestRoster_1.j0] at h, fun _ _ _ _ _ _ _ _ r h => by simp [impl_BestRoster_1.l0] at h⟩
 | k + 1 => by
  obtain ⟨ih0, ih1, ih2⟩ := impl_BestRoster_1.mono_l k
  refine ⟨?_, ?_, ?_⟩
  ·intro y0 y1 y2 y3 y4 y5
   unfold impl_BestRoster_1.f
   repeat' first
   | (with_reducible exact ih0 _ _ _ _ _ _)
   | (with_reducible exact ih1 _ _ _ _ _ _ _ _)
   | (with_reducible exact ih2 _ _ _ _ _ _ _ _)
   | (with_reducible exact impl_costOf.mono _ _ _ _)
   | (with_reducible exact impl_shiftCode.mono _ _ _ _ _)
   | (with_reducible exact LeO.refl _)
   | (with_reducible exact LeO.none _)
   | (with_reducible refine LeO.ite ?_ ?_)
   | (with_reducible refine LeO.bind ?_ (fun _ => ?_))
   | exact ih0 _ _ _ _ _ _
   | exact ih1 _ _ _ _ _ _ _ _
   | exact ih2 _ _ _ _ _ _ _ _
   | exact impl_costOf.mono _ _ _ _
   | exact impl_shiftCode.mono _ _ _ _ _
   | exact LeO.none _
   | refine LeO.ite ?_ ?_
   | refine LeO.bind ?_ (fun _ => ?_)
  ·intro y0 y1 y2 y3 y4 y5 y6 y7
   unfold impl_BestRoster_1.j0
   repeat' first
   | (with_reducible exact ih0 _ _ _ _ _ _)
   | (with_reducible exact ih1 _ _ _ _ _ _ _ _)
   | (with_reducible exact ih2 _ _ _ _ _ _ _ _)
   | (with_reducible exact impl_costOf.mono _ _ _ _)
   | (with_reducible exact impl_shiftCode.mono _ _ _ _ _)
   | (with_reducible exact LeO.refl _)
   | (with_reducible exact LeO.none _)
   | (with_reducible refine LeO.ite ?_ ?_)
   | (with_reducible refine LeO.bind ?_ (fun _ => ?_))
   | exact ih0 _ _ _ _ _ _
   | exact ih1 _ _ _ _ _ _ _ _
   | exact ih2 _ _ _ _ _ _ _ _
   | exact impl_costOf.mono _ _ _ _
   | exact impl_shiftCode.mono _ _ _ _ _
   | exact LeO.none _
   | refine LeO.ite ?_ ?_
   | refine LeO.bind ?_ (fun _ => ?_)
  ·intro y0 y1 y2 y3 y4 y5 y6 y7
   unfold impl_BestRoster_1.l0
   repeat' first
   | (with_reducible exact ih0 _ _ _ _ _ _)
   | (with_reducible exact ih1 _ _ _ _ _ _ _ _)
   | (with_reducible exact ih2 _ _ _ _ _ _ _ _)
   | (with_reducible exact impl_costOf.mono _ _ _ _)
   | (with_reducible exact impl_shiftCode.mono _ _ _ _ _)
   | (with_reducible exact LeO.refl _)
   | (with_reducible exact LeO.none _)
   | (with_reducible refine LeO.ite ?_ ?_)
   | (with_reducible refine LeO.bind ?_ (fun _ => ?_))
   | exact ih0 _ _ _ _ _ _
   | exact ih1 _ _ _ _ _ _ _ _
   | exact ih2 _ _ _ _ _ _ _ _
   | exact impl_costOf.mono _ _ _ _
   | exact impl_shiftCode.mono _ _ _ _ _
   | exact LeO.none _
   | refine LeO.ite ?_ ?_
   | refine LeO.bind ?_ (fun _ => ?_)
theorem impl_BestRoster_1.mono : ∀ a0 a1 a2 a3 a4 a5 k, LeO (impl_BestRoster_1.f k a0 a1 a2 a3 a4 a5) (impl_BestRoster_1.f (k + 1) a0 a1 a2 a3 a4 a5) := by
 intro a0 a1 a2 a3 a4 a5 k
 obtain ⟨ih0, ih1, ih2⟩ := impl_BestRoster_1.mono_l k
 exact ih0 a0 a1 a2 a3 a4 a5
set_option maxHeartbeats 64000000 in
set_option maxRecDepth 100000 in
theorem impl_BestRoster_1.calls (k : Nat) : ∀ (A0 : Option Addr) (c0 : Nat) (l0 : List Int) (gi1 : Nat) (A1_0 : Option Addr) (c1_0 : Nat) (l1_0 : List (S139)) (gi2 : Nat) (A2_0 : Option Addr) (c2_0 : Nat) (l2_0 : List (S72)) (gi3 : Nat) (a3_0 : Bool) (gi4 : Nat) (P4_0_ : Nat → Prop) (u9000_ : Value) (l4_0 : List Int) (a4_1 : Int) (gi5 : Nat) (r1 : Bool) (r2 : List Int) (r3 : Int) (w0 w : World) (hB : Below w0.heap.size w0 w) (hr0 : ∀ W_, Kept w W_ (fun k_ => ((P4_0_ k_) ∨ k_ = gi3) ∨ k_ = gi4) → Kd.C (Kd.int .i64) W_ A0 l0.length l0) (hc0 : l0.length ≤ c0) (hbk1 : w.heap[gi1]? = some (.cells #[.slice A1_0 l1_0.length c1_0] 59 (0, 0))) (hr1_0 : ∀ W_, Kept w W_ (fun k_ => ((P4_0_ k_) ∨ k_ = gi3) ∨ k_ = gi4) → Kd.C k139 W_ A1_0 l1_0.length l1_0) (hc1_0 : l1_0.length ≤ c1_0) (hbk2 : w.heap[gi2]? = some (.cells #[.slice A2_0 l2_0.length c2_0] 60 (0, 0))) (hnb1_2 : gi1 ≠ gi2) (hr2_0 : ∀ W_, Kept w W_ (fun k_ => ((P4_0_ k_) ∨ k_ = gi3) ∨ k_ = gi4) → Kd.C k72 W_ A2_0 l2_0.length l2_0) (hc2_0 : l2_0.length ≤ c2_0) (hbk3 : w.heap[gi3]? = some (.cells #[.bool a3_0] 4 (0, 0))) (hge3 : w0.heap.size ≤ gi3) (hnb1_3 : gi1 ≠ gi3) (hnb2_3 : gi2 ≠ gi3) (hbk4 : w.heap[gi4]? = some (.cells #[u9000_, .int .i64 a4_1] 64 (0, 0))) (hge4 : w0.heap.size ≤ gi4) (hnb1_4 : gi1 ≠ gi4) (hnb2_4 : gi2 ≠ gi4) (hnb3_4 : gi3 ≠ gi4) (ho4_0 : Kd.R (Kd.int .i64) 3 w w0.heap.size P4_0_ u9000_ l4_0) (hbk5 : w.heap[gi5]? = some (.cells #[.func (.func 96) #[] #[.pointer (some ⟨gi1, 0, none⟩), .pointer (some ⟨gi2, 0, none⟩), .pointer (some ⟨gi3, 0, none⟩), .pointer (some ⟨gi4, 0, none⟩), .pointer (some ⟨gi5, 0, none⟩)]] 106 (0, 0))) (hnb1_5 : gi1 ≠ gi5) (hnb2_5 : gi2 ≠ gi5) (hnb3_5 : gi3 ≠ gi5) (hnb4_5 : gi4 ≠ gi5) (h : impl_BestRoster_1.f k l0 l1_0 l2_0 a3_0 l4_0 a4_1 = some (r1, r2, r3)),
  Calls Try.prog 96 #[.slice A0 l0.length c0, .pointer (some ⟨gi1, 0, none⟩), .pointer (some ⟨gi2, 0, none⟩), .pointer (some ⟨gi3, 0, none⟩), .pointer (some ⟨gi4, 0, none⟩), .pointer (some ⟨gi5, 0, none⟩)] w fun e w' => ∃ v1_ : Value, e = .returned (.tuple #[]) ∧ Kd.R (Kd.int .i64) 3 w' w0.heap.size (fun k_ => (P4_0_ k_ ∨ w.heap.size ≤ k_)) v1_ r2 ∧ w'.heap[gi3]? = some (.cells #[.bool r1] 4 (0, 0)) ∧ w'.heap[gi4]? = some (.cells #[v1_, .int .i64 r3] 64 (0, 0)) ∧ Below w0.heap.size w0 w' ∧ Kept w w' (fun k_ => ((P4_0_ k_) ∨ k_ = gi3) ∨ k_ = gi4) := by
 induction k using Nat.strongRecOn with
 | _ k ih =>
 intro A0 c0 l0 gi1 A1_0 c1_0 l1_0 gi2 A2_0 c2_0 l2_0 gi3 a3_0 gi4 P4_0_ u9000_ l4_0 a4_1 gi5 r1 r2 r3 w0 w hB hr0 hc0 hbk1 hr1_0 hc1_0 hbk2 hnb1_2 hr2_0 hc2_0 hbk3 hge3 hnb1_3 hnb2_3 hbk4 hge4 hnb1_4 hnb2_4 hnb3_4 ho4_0 hbk5 hnb1_5 hnb2_5 hnb3_5 hnb4_5 h
 cases k with
 | zero => exact absurd h (by simp [impl_BestRoster_1.f])
 | succ k =>
 simp only [impl_BestRoster_1.f] at h
 have hu64 := Try.underlying64
 obtain ⟨HR0, HC0, HR1_0, HC1_0, HR2_0, HC2_0, HO4_0, BK1, BK2, NB1_2, NB2_1, BK3, GE3, NB1_3, NB3_1, NB2_3⟩ := zD16 hr0 hc0 hr1_0 hc1_0 hr2_0 hc2_0 (show Kd.R (Kd.int .i64) 3 w w0.heap.size (fun k_ => (P4_0_ k_ ∨ w.heap.size ≤ k_)) u9000_ l4_0 from zt ho4_0 (fun k_ hk => (.inl hk))) hbk1 hbk2 hnb1_2 (Ne.symm hnb1_2) hbk3 hge3 hnb1_3 (Ne.symm hnb1_3) hnb2_3
 clear hr0 hc0 hr1_0 hc1_0 hr2_0 hc2_0 hbk1 hbk2 hnb1_2 hbk3 hge3 hnb1_3
 obtain ⟨NB3_2, BK4, GE4, NB1_4, NB4_1, NB2_4, NB4_2, NB3_4, NB4_3, BK5, NB1_5, NB5_1, NB2_5, NB5_2, NB3_5, NB5_3⟩ := zD16 (Ne.symm hnb2_3) hbk4 hge4 hnb1_4 (Ne.symm hnb1_4) hnb2_4 (Ne.symm hnb2_4) hnb3_4 (Ne.symm hnb3_4) hbk5 hnb1_5 (Ne.symm hnb1_5) hnb2_5 (Ne.symm hnb2_5) hnb3_5 (Ne.symm hnb3_5)
 clear hnb2_3 hbk4 hge4 hnb1_4 hnb2_4 hnb3_4 hbk5 hnb1_5 hnb2_5
 clear hnb3_5
 obtain ⟨NB4_5, NB5_4, HK, HW0, HB⟩ := zD5 hnb4_5 (Ne.symm hnb4_5) (Kept.refl w (fun k_ => ((P4_0_ k_) ∨ k_ = gi3) ∨ k_ = gi4)) hB.size hB
 clear hnb4_5 hB
 have H : ((impl_costOf.f k l1_0 l2_0 l0).bind fun t264 => (if a3_0 = true then (impl_BestRoster_1.j0 k l0 t264 (decide (t264 ≥ a4_1)) l1_0 l2_0 a3_0 l4_0 a4_1) else (impl_BestRoster_1.j0 k l0 t264 false l1_0 l2_0 a3_0 l4_0 a4_1))) = some (r1, r2, r3) := h
 clear h
 replace H := Option.bind_eq_some_iff.mp H
 obtain ⟨t264, A70, H⟩ := H
 replace H : (if a3_0 = true then (impl_BestRoster_1.j0 k l0 t264 (decide (t264 ≥ a4_1)) l1_0 l2_0 a3_0 l4_0 a4_1) else (impl_BestRoster_1.j0 k l0 t264 false l1_0 l2_0 a3_0 l4_0 a4_1)) = some (r1, r2, r3) := H
 obtain ⟨A7, HC8⟩ := zD2 A70 H
 clear A70 H
 have hnb9 := NB1_2.out
 have hnc9 := NB2_1.out
 have hnb10 := NB1_3.out
 have hnc10 := NB3_1.out
 have hnb11 := NB1_4.out
 have hnc11 := NB4_1.out
 have hnb12 := NB1_5.out
 have hnc12 := NB5_1.out
 obtain ⟨hcz13_0, hfz13_0⟩ := zB1 BK1.out
 have hnb14 := NB2_3.out
 have hnc14 := NB3_2.out
 have hnb15 := NB2_4.out
 have hnc15 := NB4_2.out
 have hnb16 := NB2_5.out
 have hnc16 := NB5_2.out
 obtain ⟨hcz17_0, hfz17_0⟩ := zB1 BK2.out
 go_enter Try.func96, Try.ntmps96
 go_upto_region 7 with (first | ((with_reducible refine gate_callee (f := 97) rfl ?_); refine goesL_ (some 12) rfl rfl Try.func97 zG130 rfl #[.slice A1_0 l1_0.length c1_0, .slice A2_0 l2_0.length c2_0, .slice A0 l0.length c0] rfl zG93 ?_; (with_reducible refine (impl_costOf.calls k _ _ l1_0 _ _ l2_0 _ _ l0 t264 _ ?side1 ?side2 ?side3 ?side4 ?side5 ?side6 A7.out).mono ?_); (case side1 => exact zaw HR1_0.out zG87); (case side2 => exact HC1_0.out); (case side3 => exact zaw HR2_0.out zG87); (case side4 => exact HC2_0.out); (case side5 => exact zaw HR0.out zG87); (case side6 => exact HC0.out); rintro e w' ⟨rfl, ⟨nd, rfl⟩⟩; refine ⟨_, rfl, ?_⟩))
 (try simp only [Act.put, List.setIfInBounds_toArray, List.set_cons_zero, List.set_cons_succ])
 go_cut [32] (fun v32 wc => ∃ (kq : Nat) (x32_7 : Bool), v32 = .bool x32_7 ∧ Aside0 (impl_BestRoster_1.j0 kq l0 t264 x32_7 l1_0 l2_0 a3_0 l4_0 a4_1 = some (r1, r2, r3)) ∧ Aside0 (kq ≤ k) ∧ Aside0 (Kd.R (Kd.int .i64) 3 wc w0.heap.size (fun k_ => (P4_0_ k_ ∨ w.heap.size ≤ k_)) u9000_ l4_0) ∧ Aside0 (wc.heap[gi1]? = some (.cells #[(.slice A1_0 l1_0.length c1_0)] 59 (0, 0))) ∧ Aside0 (wc.heap[gi2]? = some (.cells #[(.slice A2_0 l2_0.length c2_0)] 60 (0, 0))) ∧ Aside0 (wc.heap[gi3]? = some (.cells #[.bool a3_0] 4 (0, 0))) ∧ Aside0 (wc.heap[gi4]? = some (.cells #[u9000_, .int .i64 a4_1] 64 (0, 0))) ∧ Aside0 (wc.heap[gi5]? = some (.cells #[.func (.func 96) #[] #[.pointer (some ⟨gi1, 0, none⟩), .pointer (some ⟨gi2, 0, none⟩), .pointer (some ⟨gi3, 0, none⟩), .pointer (some ⟨gi4, 0, none⟩), .pointer (some ⟨gi5, 0, none⟩)]] 106 (0, 0))) ∧ Aside0 (Kept w wc (fun k_ => ((P4_0_ k_) ∨ k_ = gi3) ∨ k_ = gi4)) ∧ Aside0 (Below w0.heap.size w0 wc))
 case first =>
  have H := HC8.out
  clear HC8
  by_cases c18 : a3_0 = true
  rotate_left
  ·replace c18 := Bool.eq_false_iff.mpr c18
   subst c18
   have H1 : (impl_BestRoster_1.j0 k l0 t264 false l1_0 l2_0 false l4_0 a4_1) = some (r1, r2, r3) := by rw [if_neg (show ¬ (false = true) by decide)] at H; exact H
   clear H
   have H := H1
   clear H1
   have H' := za H
   clear H
   have hnb28 := NB3_1.out
   have hnc28 := NB1_3.out
   have hnb29 := NB3_2.out
   have hnc29 := NB2_3.out
   have hnb30 := NB3_4.out
   have hnc30 := NB4_3.out
   have hnb31 := NB3_5.out
   have hnc31 := NB5_3.out
   obtain ⟨hcz32_0, hfz32_0⟩ := zB1 BK3.out
   go_wp2
   go_meet
   case rel => exact ⟨_, (false), zG129, H', ⟨zH126⟩, ⟨by (with_reducible repeat (first | apply zl | apply zm | apply zn)); exact HO4_0.out⟩, ⟨zH108⟩, ⟨zH109⟩, ⟨zH110⟩, ⟨zH111⟩, ⟨zH112⟩, ⟨zH32⟩, ⟨zH33⟩⟩
  subst c18
  have H1 : (impl_BestRoster_1.j0 k l0 t264 (decide (t264 ≥ a4_1)) l1_0 l2_0 true l4_0 a4_1) = some (r1, r2, r3) := by rw [if_pos rfl] at H; exact H
  clear H
  have H := H1
  clear H1
  have H' := za H
  clear H
  have hnb19 := NB3_1.out
  have hnc19 := NB1_3.out
  have hnb20 := NB3_2.out
  have hnc20 := NB2_3.out
  have hnb21 := NB3_4.out
  have hnc21 := NB4_3.out
  have hnb22 := NB3_5.out
  have hnc22 := NB5_3.out
  obtain ⟨hcz23_0, hfz23_0⟩ := zB1 BK3.out
  have hnb24 := NB4_1.out
  have hnc24 := NB1_4.out
  have hnb25 := NB4_2.out
  have hnc25 := NB2_4.out
  have hnb26 := NB4_5.out
  have hnc26 := NB5_4.out
  obtain ⟨hcz27_0, hcz27_1, hfz27_0, hfz27_1⟩ := zB2 BK4.out
  go_wp2
  go_meet
  case rel => exact ⟨_, (decide (t264 ≥ a4_1)), zG129, H', ⟨zH126⟩, ⟨by (with_reducible repeat (first | apply zl | apply zm | apply zn)); exact HO4_0.out⟩, ⟨zH108⟩, ⟨zH109⟩, ⟨zH110⟩, ⟨zH111⟩, ⟨zH112⟩, ⟨zH32⟩, ⟨zH33⟩⟩
 case rest =>
  clear HC8
  try clear c18
  try clear hcz13_0
  try clear hcz17_0
  try clear hcz23_0
  try clear hcz27_0
  try clear hcz27_1
  try clear hcz32_0
  try clear hfz13_0
  try clear hfz17_0
  try clear hfz23_0
  try clear hfz27_0
  try clear hfz27_1
  try clear hfz32_0
  obtain ⟨kq, x32_7, rfl, HA, HJ7, HO_5000, BK1, BK2, BK3, BK4, BK5, HK, HB⟩ := hcut
  cases kq with
  | zero => exact absurd HA.out (by simp [impl_BestRoster_1.j0])
  | succ kj7 =>
   have H := HA.out
   clear HA
   simp only [impl_BestRoster_1.j0] at H
   by_cases c33 : x32_7 = true
   ·subst c33
    have H1 : (some (a3_0, l4_0, a4_1)) = some (r1, r2, r3) := by rw [if_pos rfl] at H; exact H
    clear H
    have H := H1
    clear H1
    simp only [Option.some.injEq, Prod.mk.injEq] at H
    obtain ⟨rfl, rfl, rfl⟩ := H
    go_wp2
    first | go_end0 | ((try simp only [Exit.inBlock, Exit.then]); refine bodyPost_ret (results_none rfl _ _ _) rfl ?_)
    exact zH4
   replace c33 := Bool.eq_false_iff.mpr c33
   subst c33
   have H1 : (if (l0.length : Int) = (l1_0.length : Int) then ((slices_Clone_int_int.f l0).bind fun t265 => (some (true, t265, t264))) else (impl_BestRoster_1.l0 kj7 l0 (l2_0.length : Int) 0 l1_0 l2_0 a3_0 l4_0 a4_1)) = some (r1, r2, r3) := by rw [if_neg (show ¬ (false = true) by decide)] at H; exact H
   clear H
   have H := H1
   clear H1
   by_cases c34 : (l0.length : Int) = (l1_0.length : Int)
   ·rw [if_pos c34] at H
    have c34b0 : ((l0.length : Int) == (l1_0.length : Int)) = true := beq_iff_eq.mpr c34
    have c34b1 : ((l0.length : Int) != (l1_0.length : Int)) = false := bne_eq_false_iff_eq.mpr c34
    have c34b2 : (l0.length == l1_0.length) = true := by first | simpa using c34 | (simp at c34 ⊢; omega)
    clear c34
    replace H := Option.bind_eq_some_iff.mp H
    obtain ⟨t265, A350, H⟩ := H
    replace H : (some (true, t265, t264)) = some (r1, r2, r3) := H
    have A35 := za A350
    clear A350
    simp only [Option.some.injEq, Prod.mk.injEq] at H
    obtain ⟨rfl, rfl, rfl⟩ := H
    have hnb36 := NB1_2.out
    have hnc36 := NB2_1.out
    have hnb37 := NB1_3.out
    have hnc37 := NB3_1.out
    have hnb38 := NB1_4.out
    have hnc38 := NB4_1.out
    have hnb39 := NB1_5.out
    have hnc39 := NB5_1.out
    obtain ⟨hcz40_0, hfz40_0⟩ := zB1 BK1.out
    go_wp2_with (first | ((with_reducible refine gate_callee (f := 84) rfl ?_); refine goesL_ (some 47) rfl rfl Try.func84 zG130 rfl #[.slice A0 l0.length c0] rfl zG93 ?_; (with_reducible refine (slices_Clone_int_int.calls _ _ l0 t265 _ ?side1 ?side2 A35.out).mono ?_); (case side1 => exact zaw HR0.out zG87); (case side2 => exact HC0.out); rintro e w41 ⟨v266, rfl, ho0, hb⟩; refine ⟨_, rfl, ?_⟩; have n_ := zA_ (za (zak zK246 (zag ho0) hb)) (zA_ (za (zam (zao (zca (M := fun k_ => (P4_0_ k_ ∨ w.heap.size ≤ k_)) ho0 zK149 (fun k_ h_ => .inr h_)) (zaf zK246)) (zo zG88))) (zA_ (za (zp (g := gi1) (o := .cells #[.slice A1_0 l1_0.length c1_0] 59 (0, 0)) zK242 hb)) (zA_ (za (zp (g := gi2) (o := .cells #[.slice A2_0 l2_0.length c2_0] 60 (0, 0)) zK243 hb)) (zA_ (za (zp (g := gi3) (o := .cells #[.bool a3_0] 4 (0, 0)) zG110 hb)) (zA_ (za (zp (g := gi4) (o := .cells #[u9000_, .int .i64 a4_1] 64 (0, 0)) zG111 hb)) (zA_ (za (zp (g := gi5) (o := .cells #[.func (.func 96) #[] #[.pointer (some ⟨gi1, 0, none⟩), .pointer (some ⟨gi2, 0, none⟩), .pointer (some ⟨gi3, 0, none⟩), .pointer (some ⟨gi4, 0, none⟩), .pointer (some ⟨gi5, 0, none⟩)]] 106 (0, 0)) zK244 hb)) (zA_ (za (Kept.below (S := (fun k_ => ((P4_0_ k_) ∨ k_ = gi3) ∨ k_ = gi4)) zG87 hb)) (za (zr zG88 hb))))))))); clear HO_5000 BK1 BK2 BK3 BK4 BK5 HK HB; obtain ⟨HO_5000, HO267, BK1, BK2, BK3, BK4, BK5, HK, HB⟩ := n_; (try clear hb); (try clear ho0); obtain ⟨Ao42, co42, eo42⟩ := zal HO267.out; subst eo42; have hnb43 := NB4_2.out; have hnc43 := NB2_4.out; have hnb44 := NB4_3.out; have hnc44 := NB3_4.out; have hnb45 := NB4_5.out; have hnc45 := NB5_4.out; obtain ⟨hcz46_0, hcz46_1, hfz46_0, hfz46_1⟩ := zB2 BK4.out; have hnb47 := NB3_2.out; have hnc47 := NB2_3.out; have hnb48 := NB3_5.out; have hnc48 := NB5_3.out; obtain ⟨hcz49_0, hfz49_0⟩ := zB1 BK3.out))
    first | go_end0 | ((try simp only [Exit.inBlock, Exit.then]); refine bodyPost_ret (results_none rfl _ _ _) rfl ?_)
    exact ⟨_, zH113, by (with_reducible repeat (first | apply zl | apply zm | apply zn)); exact zt (zs (p := ⟨gi3, 0, none⟩) (zs (p := ⟨gi4, 1, none⟩) (zs (p := ⟨gi4, 0, none⟩) (zv (zv HO267.out BK4.out zG131) BK3.out zG131) (fun _ hk => hk.1.2) (.slice Ao42 t265.length co42)) (fun _ hk => hk.1.2) (.int .i64 t264)) (fun _ hk => hk.2) (.bool true)) (fun _ hk => hk.1.1.1.1), (by (with_reducible repeat (first | refine zd ?_ _ | refine zg ?_ | refine ze ?_ _)); refine zu (cs := #[.bool a3_0]) ?_ 0 _ rfl; (with_reducible repeat (first | refine zd ?_ _ | refine zg ?_ | refine ze ?_ _)); refine zz ?_ NB3_4.out _; (with_reducible repeat (first | refine zd ?_ _ | refine zg ?_ | refine ze ?_ _)); refine zz ?_ NB3_4.out _; (with_reducible repeat (first | refine zd ?_ _ | refine zg ?_ | refine ze ?_ _)); exact BK3.out), (by (with_reducible repeat (first | refine zd ?_ _ | refine zg ?_ | refine ze ?_ _)); refine zz ?_ NB4_3.out _; (with_reducible repeat (first | refine zd ?_ _ | refine zg ?_ | refine ze ?_ _)); refine zu (cs := #[.slice Ao42 t265.length co42, .int .i64 a4_1]) ?_ 1 _ rfl; (with_reducible repeat (first | refine zd ?_ _ | refine zg ?_ | refine ze ?_ _)); refine zu (cs := #[u9000_, .int .i64 a4_1]) ?_ 0 _ rfl; (with_reducible repeat (first | refine zd ?_ _ | refine zg ?_ | refine ze ?_ _)); exact BK4.out), zH33, zH32⟩
   rw [if_neg c34] at H
   have c34b0 : ((l0.length : Int) == (l1_0.length : Int)) = false := beq_eq_false_iff_ne.mpr c34
   have c34b1 : ((l0.length : Int) != (l1_0.length : Int)) = true := bne_iff_ne.mpr c34
   have c34b2 : (l0.length == l1_0.length) = false := by first | simpa using c34 | (simp at c34 ⊢; omega)
   have H' := za H
   clear H
   have hnb50 := NB1_2.out
   have hnc50 := NB2_1.out
   have hnb51 := NB1_3.out
   have hnc51 := NB3_1.out
   have hnb52 := NB1_4.out
   have hnc52 := NB4_1.out
   have hnb53 := NB1_5.out
   have hnc53 := NB5_1.out
   obtain ⟨hcz54_0, hfz54_0⟩ := zB1 BK1.out
   have hnb55 := NB2_3.out
   have hnc55 := NB3_2.out
   have hnb56 := NB2_4.out
   have hnc56 := NB4_2.out
   have hnb57 := NB2_5.out
   have hnc57 := NB5_2.out
   obtain ⟨hcz58_0, hfz58_0⟩ := zB1 BK2.out
   go_wp2
   go_loopg [15] kj7 (fun kq v15 w' => ∃ (x15_2 : Int) (x4000_2 : Bool) (x5000_2 : List Int) (x5001_2 : Int) (u5000 : Value), v15 = .int .i64 x15_2 ∧ Aside0 (impl_BestRoster_1.l0 kq l0 (l2_0.length : Int) x15_2 l1_0 l2_0 x4000_2 x5000_2 x5001_2 = some (r1, r2, r3)) ∧ Aside0 (kq ≤ kj7) ∧ Aside0 (Kd.R (Kd.int .i64) 3 w' w0.heap.size (fun k_ => (P4_0_ k_ ∨ w.heap.size ≤ k_)) u5000 x5000_2) ∧ Aside0 (w'.heap[gi1]? = some (.cells #[(.slice A1_0 l1_0.length c1_0)] 59 (0, 0))) ∧ Aside0 (w'.heap[gi2]? = some (.cells #[(.slice A2_0 l2_0.length c2_0)] 60 (0, 0))) ∧ Aside0 (w'.heap[gi3]? = some (.cells #[.bool x4000_2] 4 (0, 0))) ∧ Aside0 (w'.heap[gi4]? = some (.cells #[u5000, .int .i64 x5001_2] 64 (0, 0))) ∧ Aside0 (w'.heap[gi5]? = some (.cells #[.func (.func 96) #[] #[.pointer (some ⟨gi1, 0, none⟩), .pointer (some ⟨gi2, 0, none⟩), .pointer (some ⟨gi3, 0, none⟩), .pointer (some ⟨gi4, 0, none⟩), .pointer (some ⟨gi5, 0, none⟩)]] 106 (0, 0))) ∧ Aside0 (Kept w w' (fun k_ => ((P4_0_ k_) ∨ k_ = gi3) ∨ k_ = gi4)) ∧ Aside0 (Below w0.heap.size w0 w'))
   case atStart => exact ⟨(0), (a3_0), (l4_0), (a4_1), (u9000_), zG129, H', ⟨Nat.le_refl _⟩, ⟨zH116⟩, ⟨zH108⟩, ⟨zH109⟩, ⟨zH110⟩, ⟨zH111⟩, ⟨zH112⟩, ⟨zH32⟩, ⟨zH33⟩⟩
   case round =>
    clear H'
    try clear c18
    try clear c33
    try clear c34
    try clear c34b0
    try clear c34b1
    try clear c34b2
    try clear hcz13_0
    try clear hcz17_0
    try clear hcz23_0
    try clear hcz27_0
    try clear hcz27_1
    try clear hcz32_0
    try clear hcz40_0
    try clear hcz46_0
    try clear hcz46_1
    try clear hcz49_0
    try clear hcz54_0
    try clear hcz58_0
    try clear hfz13_0
    try clear hfz17_0
    try clear hfz23_0
    try clear hfz27_0
    try clear hfz27_1
    try clear hfz32_0
    try clear hfz40_0
    try clear hfz46_0
    try clear hfz46_1
    try clear hfz49_0
    try clear hfz54_0
    try clear hfz58_0
    obtain ⟨x15_2, x4000_2, x5000_2, x5001_2, u5000, rfl, HA, HK2, HO_5000, BK1, BK2, BK3, BK4, BK5, HK, HB⟩ := hrel
    cases gk with
    | zero => exact absurd HA.out (by simp [impl_BestRoster_1.l0])
    | succ k2 =>
     have H := HA.out
     clear HA
     simp only [impl_BestRoster_1.l0] at H
     by_cases c59 : x15_2 < (l2_0.length : Int)
     rotate_left
     ·rw [if_neg c59] at H
      have c59b0 := decide_eq_false c59
      clear c59
      simp only [Option.some.injEq, Prod.mk.injEq] at H
      obtain ⟨rfl, rfl, rfl⟩ := H
      go_wp2
      first | go_end0 | ((try simp only [Exit.inBlock, Exit.then]); refine bodyPost_ret (results_none rfl _ _ _) rfl ?_)
      exact zH4

     rw [if_pos c59] at H
     have c59b0 := decide_eq_true c59
     clear c59
     replace H := Option.bind_eq_some_iff.mp H
     obtain ⟨t268, A600, H⟩ := H
     replace H : (if t268 = 0 then ((slices_Clone_int_int.f l0).bind fun t269 => ((some (([x15_2] : List Int) : List Int)).bind fun y272 => (if t269.length + y272.length < 17592186044416 then ((impl_BestRoster_1.f k2 (t269 ++ y272) l1_0 l2_0 x4000_2 x5000_2 x5001_2).bind fun bt278 => (impl_BestRoster_1.l0 k2 l0 (l2_0.length : Int) (wrap64 (x15_2 + 1)) l1_0 l2_0 bt278.1 bt278.2.1 bt278.2.2)) else (none)))) else (impl_BestRoster_1.l0 k2 l0 (l2_0.length : Int) (wrap64 (x15_2 + 1)) l1_0 l2_0 x4000_2 x5000_2 x5001_2)) = some (r1, r2, r3) := H
     have A60 := za A600
     clear A600
     by_cases c61 : t268 = 0
     rotate_left
     ·rw [if_neg c61] at H
      have c61b0 : (t268 == 0) = false := beq_eq_false_iff_ne.mpr c61
      have c61b1 : (t268 != 0) = true := bne_iff_ne.mpr c61
      have H' := za H
      clear H
      have hnb85 := NB1_2.out
      have hnc85 := NB2_1.out
      have hnb86 := NB1_3.out
      have hnc86 := NB3_1.out
      have hnb87 := NB1_4.out
      have hnc87 := NB4_1.out
      have hnb88 := NB1_5.out
      have hnc88 := NB5_1.out
      obtain ⟨hcz89_0, hfz89_0⟩ := zB1 BK1.out
      have hnb90 := NB2_3.out
      have hnc90 := NB3_2.out
      have hnb91 := NB2_4.out
      have hnc91 := NB4_2.out
      have hnb92 := NB2_5.out
      have hnc92 := NB5_2.out
      obtain ⟨hcz93_0, hfz93_0⟩ := zB1 BK2.out
      go_wp2_with (first | ((with_reducible refine gate_callee (f := 98) rfl ?_); refine goesL_ (some 22) rfl rfl Try.func98 zG130 rfl #[.slice A1_0 l1_0.length c1_0, .slice A2_0 l2_0.length c2_0, .slice A0 l0.length c0, .int .i64 x15_2] rfl zG93 ?_; (with_reducible refine (impl_shiftCode.calls k2 _ _ l1_0 _ _ l2_0 _ _ l0 x15_2 t268 _ ?side1 ?side2 ?side3 ?side4 ?side5 ?side6 A60.out).mono ?_); (case side1 => exact zaw HR1_0.out zG87); (case side2 => exact HC1_0.out); (case side3 => exact zaw HR2_0.out zG87); (case side4 => exact HC2_0.out); (case side5 => exact zaw HR0.out zG87); (case side6 => exact HC0.out); rintro e w94 ⟨rfl, hb⟩; refine ⟨_, rfl, ?_⟩; have n_ := zA_ (za (zq zK246 hb)) (zA_ (za (zp (g := gi1) (o := .cells #[.slice A1_0 l1_0.length c1_0] 59 (0, 0)) zK242 hb)) (zA_ (za (zp (g := gi2) (o := .cells #[.slice A2_0 l2_0.length c2_0] 60 (0, 0)) zK243 hb)) (zA_ (za (zp (g := gi3) (o := .cells #[.bool x4000_2] 4 (0, 0)) zG110 hb)) (zA_ (za (zp (g := gi4) (o := .cells #[u5000, .int .i64 x5001_2] 64 (0, 0)) zG111 hb)) (zA_ (za (zp (g := gi5) (o := .cells #[.func (.func 96) #[] #[.pointer (some ⟨gi1, 0, none⟩), .pointer (some ⟨gi2, 0, none⟩), .pointer (some ⟨gi3, 0, none⟩), .pointer (some ⟨gi4, 0, none⟩), .pointer (some ⟨gi5, 0, none⟩)]] 106 (0, 0)) zK244 hb)) (zA_ (za (Kept.below (S := (fun k_ => ((P4_0_ k_) ∨ k_ = gi3) ∨ k_ = gi4)) zG87 hb)) (za (zr zG88 hb)))))))); clear HO_5000 BK1 BK2 BK3 BK4 BK5 HK HB; obtain ⟨HO_5000, BK1, BK2, BK3, BK4, BK5, HK, HB⟩ := n_; (try clear hb)))
      go_roundg k2
      case measure => have := HJ7.out; have := HK2.out; omega
      case rel => exact ⟨(wrap64 (x15_2 + 1)), (x4000_2), (x5000_2), (x5001_2), (u5000), zG129, H', ⟨by have := HJ7.out; have := HK2.out; omega⟩, ⟨zH116⟩, ⟨zH108⟩, ⟨zH109⟩, ⟨zH110⟩, ⟨zH111⟩, ⟨zH112⟩, ⟨zH32⟩, ⟨zH33⟩⟩
     rw [if_pos c61] at H
     have c61b0 : (t268 == 0) = true := beq_iff_eq.mpr c61
     have c61b1 : (t268 != 0) = false := bne_eq_false_iff_eq.mpr c61
     clear c61
     replace H := Option.bind_eq_some_iff.mp H
     obtain ⟨t269, A620, H⟩ := H
     replace H : ((some (([x15_2] : List Int) : List Int)).bind fun y272 => (if t269.length + y272.length < 17592186044416 then ((impl_BestRoster_1.f k2 (t269 ++ y272) l1_0 l2_0 x4000_2 x5000_2 x5001_2).bind fun bt278 => (impl_BestRoster_1.l0 k2 l0 (l2_0.length : Int) (wrap64 (x15_2 + 1)) l1_0 l2_0 bt278.1 bt278.2.1 bt278.2.2)) else (none))) = some (r1, r2, r3) := H
     have A62 := za A620
     clear A620
     obtain ⟨y272, hy272⟩ : ∃ y_ : List Int, y_ = (([x15_2] : List Int)) := ⟨_, rfl⟩
     replace H : (if t269.length + y272.length < 17592186044416 then ((impl_BestRoster_1.f k2 (t269 ++ y272) l1_0 l2_0 x4000_2 x5000_2 x5001_2).bind fun bt278 => (impl_BestRoster_1.l0 k2 l0 (l2_0.length : Int) (wrap64 (x15_2 + 1)) l1_0 l2_0 bt278.1 bt278.2.1 bt278.2.2)) else (none)) = some (r1, r2, r3) := by first | (rw [hy272]; with_reducible exact H) | (have H2_ := (Option.bind_some _ _).symm.trans H; rw [hy272]; with_reducible exact H2_) | (have H2_ := (Option.bind_some _ _).symm.trans H; with_reducible exact H2_) | with_reducible exact H | (rw [hy272]; exact H) | exact H
     have Ny272 := za hy272
     clear hy272
     by_cases c63 : t269.length + y272.length < 17592186044416
     rotate_left
     ·rw [if_neg c63] at H
      exact absurd H (by simp)
     rw [if_pos c63] at H
     have LMc63 := za c63
     clear c63
     obtain ⟨y275, hy275⟩ : ∃ y_ : List Int, y_ = (t269 ++ y272) := ⟨_, rfl⟩
     replace H : ((impl_BestRoster_1.f k2 y275 l1_0 l2_0 x4000_2 x5000_2 x5001_2).bind fun bt278 => (impl_BestRoster_1.l0 k2 l0 (l2_0.length : Int) (wrap64 (x15_2 + 1)) l1_0 l2_0 bt278.1 bt278.2.1 bt278.2.2)) = some (r1, r2, r3) := by first | (rw [hy275]; with_reducible exact H) | (have H2_ := (Option.bind_some _ _).symm.trans H; rw [hy275]; with_reducible exact H2_) | (have H2_ := (Option.bind_some _ _).symm.trans H; with_reducible exact H2_) | with_reducible exact H | (rw [hy275]; exact H) | exact H
     have Ny275 := za hy275
     clear hy275
     replace H := Option.bind_eq_some_iff.mp H
     obtain ⟨⟨t278, t279, t282⟩, A640, H⟩ := H
     replace H : (impl_BestRoster_1.l0 k2 l0 (l2_0.length : Int) (wrap64 (x15_2 + 1)) l1_0 l2_0 t278 t279 t282) = some (r1, r2, r3) := H
     have A64 := za A640
     clear A640
     have H' := za H
     clear H
     have hnb65 := NB1_2.out
     have hnc65 := NB2_1.out
     have hnb66 := NB1_3.out
     have hnc66 := NB3_1.out
     have hnb67 := NB1_4.out
     have hnc67 := NB4_1.out
     have hnb68 := NB1_5.out
     have hnc68 := NB5_1.out
     obtain ⟨hcz69_0, hfz69_0⟩ := zB1 BK1.out
     have hnb70 := NB2_3.out
     have hnc70 := NB3_2.out
     have hnb71 := NB2_4.out
     have hnc71 := NB4_2.out
     have hnb72 := NB2_5.out
     have hnc72 := NB5_2.out
     obtain ⟨hcz73_0, hfz73_0⟩ := zB1 BK2.out
     try go_wp2_with (first | ((with_reducible refine gate_callee (f := 98) rfl ?_); refine goesL_ (some 22) rfl rfl Try.func98 zG130 rfl #[.slice A1_0 l1_0.length c1_0, .slice A2_0 l2_0.length c2_0, .slice A0 l0.length c0, .int .i64 x15_2] rfl zG93 ?_; (with_reducible refine (impl_shiftCode.calls k2 _ _ l1_0 _ _ l2_0 _ _ l0 x15_2 t268 _ ?side1 ?side2 ?side3 ?side4 ?side5 ?side6 A60.out).mono ?_); (case side1 => exact zaw HR1_0.out zG87); (case side2 => exact HC1_0.out); (case side3 => exact zaw HR2_0.out zG87); (case side4 => exact HC2_0.out); (case side5 => exact zaw HR0.out zG87); (case side6 => exact HC0.out); rintro e w74 ⟨rfl, hb⟩; refine ⟨_, rfl, ?_⟩; have n_ := zA_ (za (zq zK246 hb)) (zA_ (za (zp (g := gi1) (o := .cells #[.slice A1_0 l1_0.length c1_0] 59 (0, 0)) zK242 hb)) (zA_ (za (zp (g := gi2) (o := .cells #[.slice A2_0 l2_0.length c2_0] 60 (0, 0)) zK243 hb)) (zA_ (za (zp (g := gi3) (o := .cells #[.bool x4000_2] 4 (0, 0)) zG110 hb)) (zA_ (za (zp (g := gi4) (o := .cells #[u5000, .int .i64 x5001_2] 64 (0, 0)) zG111 hb)) (zA_ (za (zp (g := gi5) (o := .cells #[.func (.func 96) #[] #[.pointer (some ⟨gi1, 0, none⟩), .pointer (some ⟨gi2, 0, none⟩), .pointer (some ⟨gi3, 0, none⟩), .pointer (some ⟨gi4, 0, none⟩), .pointer (some ⟨gi5, 0, none⟩)]] 106 (0, 0)) zK244 hb)) (zA_ (za (Kept.below (S := (fun k_ => ((P4_0_ k_) ∨ k_ = gi3) ∨ k_ = gi4)) zG87 hb)) (za (zr zG88 hb)))))))); clear HO_5000 BK1 BK2 BK3 BK4 BK5 HK HB; obtain ⟨HO_5000, BK1, BK2, BK3, BK4, BK5, HK, HB⟩ := n_; (try clear hb)))
     obtain ⟨n0_, n1_, n2_, n3_, n4_, n5_, n6_, n7_⟩ := zD8 (zn HO_5000.out) (zg BK1.out) (zg BK2.out) (zg BK3.out) (zg BK4.out) (zg BK5.out) (Kept.drew HK.out) (zh HB.out)
     clear HO_5000 BK1 BK2 BK3 BK4 BK5 HK HB
     have HO_5000 := n0_
     have BK1 := n1_
     have BK2 := n2_
     have BK3 := n3_
     have BK4 := n4_
     have BK5 := n5_
     have HK := n6_
     have HB := n7_
     clear n0_ n1_ n2_ n3_ n4_ n5_ n6_ n7_
     refine start_ (n := 7) (S := fun w' => w'.cell? ⟨gi5, 0, none⟩ = some (.func (.func 96) #[] #[.pointer (some ⟨gi1, 0, none⟩), .pointer (some ⟨gi2, 0, none⟩), .pointer (some ⟨gi3, 0, none⟩), .pointer (some ⟨gi4, 0, none⟩), .pointer (some ⟨gi5, 0, none⟩)])) (ds := []) #[false, false, false, false, false, false, false] zG130 rfl rfl ((zk BK5.out 0).trans rfl) (fun hHeld => ?_)
     generalize w74.drew = w75 at HO_5000 BK1 BK2 BK3 BK4 BK5 HK HB hHeld ⊢
     refine pure_ (i := 1) (N := some 25) (v := ?_) (a' := ?_) #[false, true, false, false, false, false, false] rfl rfl zG130 (fun _ _ _ h => h) (Or.inl ⟨by rfl, ?_⟩) ?_ ?_
     rotate_left
     ·intro w'
      go_simp
      with_reducible rfl
     rotate_left
     ·simp only [Act.put, List.setIfInBounds_toArray, List.set_cons_zero, List.set_cons_succ, i64_w, i32_w]
      rfl
     refine pure_ (i := 3) (N := some 27) (v := ?_) (a' := ?_) #[false, true, false, true, false, false, false] rfl rfl zG130 (fun _ _ _ h => h) (Or.inl ⟨by rfl, ?_⟩) ?_ ?_
     rotate_left
     ·intro w'
      go_simp
      with_reducible rfl
     rotate_left
     ·simp only [Act.put, List.setIfInBounds_toArray, List.set_cons_zero, List.set_cons_succ, i64_w, i32_w]
      rfl
     refine take_ (i := 0) (N := some 24) (v := ?_) (a' := ?_) #[true, true, false, true, false, false, false] rfl rfl zG130 (fun _ _ _ h => h) (Or.inl ⟨by rfl, ?_⟩) hHeld ?_ ?_
     rotate_left
     ·intro w' s0
      go_simp
      with_reducible rfl
     rotate_left
     ·simp only [Act.put, List.setIfInBounds_toArray, List.set_cons_zero, List.set_cons_succ, i64_w, i32_w]
      rfl
     refine join_ (σ := Value × Value) 2 b8A0 (fun s_ => [(26, s_.1), (28, s_.2)]) (fun s_ w' => (w'.cell? ⟨gi5, 0, none⟩ = some (.func (.func 96) #[] #[.pointer (some ⟨gi1, 0, none⟩), .pointer (some ⟨gi2, 0, none⟩), .pointer (some ⟨gi3, 0, none⟩), .pointer (some ⟨gi4, 0, none⟩), .pointer (some ⟨gi5, 0, none⟩)])) ∧ (Kd.R (Kd.int .i64) 3 w' w0.heap.size (fun k_ => (P4_0_ k_ ∨ w.heap.size ≤ k_) ∧ some k_ ≠ (s_.2 : Value).ownBlock ∧ some k_ ≠ (u5000 : Value).ownBlock) s_.1 t269) ∧ (Kd.R (Kd.int .i64) 3 w' w0.heap.size (fun k_ => (P4_0_ k_ ∨ w.heap.size ≤ k_) ∧ some k_ ≠ (s_.1 : Value).ownBlock ∧ some k_ ≠ (u5000 : Value).ownBlock) s_.2 y272) ∧ (Kd.R (Kd.int .i64) 3 w' w0.heap.size (fun k_ => (P4_0_ k_ ∨ w.heap.size ≤ k_) ∧ some k_ ≠ (s_.1 : Value).ownBlock ∧ some k_ ≠ (s_.2 : Value).ownBlock) u5000 x5000_2) ∧ (w'.heap[gi1]? = some (.cells #[.slice A1_0 l1_0.length c1_0] 59 (0, 0))) ∧ (w'.heap[gi2]? = some (.cells #[.slice A2_0 l2_0.length c2_0] 60 (0, 0))) ∧ (w'.heap[gi3]? = some (.cells #[.bool x4000_2] 4 (0, 0))) ∧ (w'.heap[gi4]? = some (.cells #[u5000, .int .i64 x5001_2] 64 (0, 0))) ∧ (w'.heap[gi5]? = some (.cells #[.func (.func 96) #[] #[.pointer (some ⟨gi1, 0, none⟩), .pointer (some ⟨gi2, 0, none⟩), .pointer (some ⟨gi3, 0, none⟩), .pointer (some ⟨gi4, 0, none⟩), .pointer (some ⟨gi5, 0, none⟩)]] 106 (0, 0))) ∧ (Kept w w' (fun k_ => ((P4_0_ k_) ∨ k_ = gi3) ∨ k_ = gi4)) ∧ (Below w0.heap.size w0 w')) ?_ ?_
     rotate_left
     ·intro hCont
      refine two_ (i := 2) (j := 4) (Ni := some 26) (Nj := some 28) #[true, true, true, true, false, false, false] #[true, true, false, true, true, false, false] rfl rfl rfl rfl zG130 zG131 zG131 (fun K hK => ?_) (fun K hK => ?_)
      ·skip
       refine goes_ Try.func84 zG130 rfl #[.slice A0 l0.length c0] (by rfl) rfl rfl zG93 ?_
       with_reducible refine (slices_Clone_int_int.calls _ _ l0 t269 _ ?side1 ?side2 A62.out).mono ?_
       (case side1 => exact zaw HR0.out zG87)
       (case side2 => exact HC0.out)
       rintro e w76 ⟨v270, rfl, ho0, hb⟩
       refine ⟨_, rfl, ?_⟩
       obtain ⟨n0_, n1_, n2_, n3_, n4_, n5_, n6_, n7_, n8_⟩ := zD9 (zak zK246 (zag ho0) hb) (zam (zao (zca (M := fun k_ => (P4_0_ k_ ∨ w.heap.size ≤ k_)) ho0 zK149 (fun k_ h_ => .inr h_)) (zaf zK246)) (zo zG88)) (zp (g := gi1) (o := .cells #[.slice A1_0 l1_0.length c1_0] 59 (0, 0)) zK242 hb) (zp (g := gi2) (o := .cells #[.slice A2_0 l2_0.length c2_0] 60 (0, 0)) zK243 hb) (zp (g := gi3) (o := .cells #[.bool x4000_2] 4 (0, 0)) zG110 hb) (zp (g := gi4) (o := .cells #[u5000, .int .i64 x5001_2] 64 (0, 0)) zG111 hb) (zp (g := gi5) (o := .cells #[.func (.func 96) #[] #[.pointer (some ⟨gi1, 0, none⟩), .pointer (some ⟨gi2, 0, none⟩), .pointer (some ⟨gi3, 0, none⟩), .pointer (some ⟨gi4, 0, none⟩), .pointer (some ⟨gi5, 0, none⟩)]] 106 (0, 0)) zK244 hb) (Kept.below (S := (fun k_ => ((P4_0_ k_) ∨ k_ = gi3) ∨ k_ = gi4)) zG87 hb) (zr zG88 hb)
       clear HO_5000 BK1 BK2 BK3 BK4 BK5 HK HB
       have HO_5000 := n0_
       have HO271 := n1_
       have BK1 := n2_
       have BK2 := n3_
       have BK3 := n4_
       have BK4 := n5_
       have BK5 := n6_
       have HK := n7_
       have HB := n8_
       clear n0_ n1_ n2_ n3_ n4_ n5_ n6_ n7_ n8_
       (try clear hb)
       (try clear hb2)
       (try clear hk)
       (try clear hi)
       (try clear ho0)
       refine hK.out _ _ ((zk BK5.out 0).trans rfl) (fun hHeld => ?_)
       clear hK K
       refine norm_ (a' := ?_) ?_ ?_
       rotate_left
       ·show Act.put _ (some 26) _ = _
        simp only [Act.put, List.setIfInBounds_toArray, List.set_cons_zero, List.set_cons_succ, i64_w, i32_w]
        rfl
       refine one_ (i := 4) (N := some 28) b8A0 rfl rfl zG130 zG131 (fun K hK => ?_)
       refine zcf (Kd.int .i64) _ 3 ?hg (N := 28) ?hd (xs := ([x15_2] : List Int)) (inner := [.int .i64 x15_2]) (ok := fun _ => True) (okp := fun _ => True) ?hr ?hp (fun _ hk => hk) trivial (Below.refl _ _) (Nat.le_refl _) (by simp) ?_; (case hd => rfl); (case hg => rfl); (case hr => exact zH125); (case hp => exact (Reps.one (show Kd.M (Kd.int .i64) _ _ _ x15_2 [.int .i64 x15_2] from rfl) (Reps.none _ _)))
       intro v273 w77 ho78 hb hg_ hnew_
       clear hg_ hnew_
       (first | rw [← Ny272.out] at ho78 | (simp only [Int.reduceToNat] at ho78; rw [← Ny272.out] at ho78))
       obtain ⟨n0_, n1_, n2_, n3_, n4_, n5_, n6_, n7_, n8_, n9_⟩ := zD10 (zak zK246 (zag ho78) hb) (zak (by (with_reducible repeat (first | apply zl | apply zm | apply zn)); exact HO271.out) (zag ho78) hb) (zam (zao (zao (zca (M := fun k_ => (P4_0_ k_ ∨ w.heap.size ≤ k_)) ho78 zK149 (fun k_ h_ => .inr h_)) (zaf zK246)) (zaf (by (with_reducible repeat (first | apply zl | apply zm | apply zn)); exact HO271.out))) (zo zG88)) (zp (g := gi1) (o := .cells #[.slice A1_0 l1_0.length c1_0] 59 (0, 0)) zK242 hb) (zp (g := gi2) (o := .cells #[.slice A2_0 l2_0.length c2_0] 60 (0, 0)) zK243 hb) (zp (g := gi3) (o := .cells #[.bool x4000_2] 4 (0, 0)) zG110 hb) (zp (g := gi4) (o := .cells #[u5000, .int .i64 x5001_2] 64 (0, 0)) zG111 hb) (zp (g := gi5) (o := .cells #[.func (.func 96) #[] #[.pointer (some ⟨gi1, 0, none⟩), .pointer (some ⟨gi2, 0, none⟩), .pointer (some ⟨gi3, 0, none⟩), .pointer (some ⟨gi4, 0, none⟩), .pointer (some ⟨gi5, 0, none⟩)]] 106 (0, 0)) zK244 hb) (Kept.below (S := (fun k_ => ((P4_0_ k_) ∨ k_ = gi3) ∨ k_ = gi4)) zG87 hb) (zr zG88 hb)
       clear HO_5000 HO271 BK1 BK2 BK3 BK4 BK5 HK HB
       have HO_5000 := n0_
       have HO271 := n1_
       have HO274 := n2_
       have BK1 := n3_
       have BK2 := n4_
       have BK3 := n5_
       have BK4 := n6_
       have BK5 := n7_
       have HK := n8_
       have HB := n9_
       clear n0_ n1_ n2_ n3_ n4_ n5_ n6_ n7_ n8_ n9_
       clear hb ho78
       refine hK.out _ _ ((zk BK5.out 0).trans rfl) (fun hHeld => ?_)
       clear hK K
       refine norm_ (a' := ?_) ?_ ?_
       rotate_left
       ·show Act.put _ (some 28) _ = _
        simp only [Act.put, List.setIfInBounds_toArray, List.set_cons_zero, List.set_cons_succ, i64_w, i32_w]
        rfl
       exact norm_ zK241 (hCont (v270, v273) _ ⟨hHeld, zK223, zK224, (by (with_reducible repeat (first | apply zl | apply zm | apply zn)); exact zt HO_5000.out (fun _ hk => ⟨hk.1.1, ⟨hk.1.2, hk.2⟩⟩)), zK242, zK243, zG110, zG111, zK244, zG87, zG88⟩)
      ·skip
       refine zcf (Kd.int .i64) _ 3 ?hg (N := 28) ?hd (xs := ([x15_2] : List Int)) (inner := [.int .i64 x15_2]) (ok := fun _ => True) (okp := fun _ => True) ?hr ?hp (fun _ hk => hk) trivial (Below.refl _ _) (Nat.le_refl _) (by simp) ?_; (case hd => rfl); (case hg => rfl); (case hr => exact zH125); (case hp => exact (Reps.one (show Kd.M (Kd.int .i64) _ _ _ x15_2 [.int .i64 x15_2] from rfl) (Reps.none _ _)))
       intro v273 w76 ho77 hb hg_ hnew_
       clear hg_ hnew_
       (first | rw [← Ny272.out] at ho77 | (simp only [Int.reduceToNat] at ho77; rw [← Ny272.out] at ho77))
       obtain ⟨n0_, n1_, n2_, n3_, n4_, n5_, n6_, n7_, n8_⟩ := zD9 (zak zK246 (zag ho77) hb) (zam (zao (zca (M := fun k_ => (P4_0_ k_ ∨ w.heap.size ≤ k_)) ho77 zK149 (fun k_ h_ => .inr h_)) (zaf zK246)) (zo zG88)) (zp (g := gi1) (o := .cells #[.slice A1_0 l1_0.length c1_0] 59 (0, 0)) zK242 hb) (zp (g := gi2) (o := .cells #[.slice A2_0 l2_0.length c2_0] 60 (0, 0)) zK243 hb) (zp (g := gi3) (o := .cells #[.bool x4000_2] 4 (0, 0)) zG110 hb) (zp (g := gi4) (o := .cells #[u5000, .int .i64 x5001_2] 64 (0, 0)) zG111 hb) (zp (g := gi5) (o := .cells #[.func (.func 96) #[] #[.pointer (some ⟨gi1, 0, none⟩), .pointer (some ⟨gi2, 0, none⟩), .pointer (some ⟨gi3, 0, none⟩), .pointer (some ⟨gi4, 0, none⟩), .pointer (some ⟨gi5, 0, none⟩)]] 106 (0, 0)) zK244 hb) (Kept.below (S := (fun k_ => ((P4_0_ k_) ∨ k_ = gi3) ∨ k_ = gi4)) zG87 hb) (zr zG88 hb)
       clear HO_5000 BK1 BK2 BK3 BK4 BK5 HK HB
       have HO_5000 := n0_
       have HO274 := n1_
       have BK1 := n2_
       have BK2 := n3_
       have BK3 := n4_
       have BK4 := n5_
       have BK5 := n6_
       have HK := n7_
       have HB := n8_
       clear n0_ n1_ n2_ n3_ n4_ n5_ n6_ n7_ n8_
       clear hb ho77
       refine hK.out _ _ ((zk BK5.out 0).trans rfl) (fun hHeld => ?_)
       clear hK K
       refine norm_ (a' := ?_) ?_ ?_
       rotate_left
       ·show Act.put _ (some 28) _ = _
        simp only [Act.put, List.setIfInBounds_toArray, List.set_cons_zero, List.set_cons_succ, i64_w, i32_w]
        rfl
       refine one_ (i := 2) (N := some 26) b8A0 rfl rfl zG130 zG131 (fun K hK => ?_)
       refine goes_ Try.func84 zG130 rfl #[.slice A0 l0.length c0] (by rfl) rfl rfl zG93 ?_
       with_reducible refine (slices_Clone_int_int.calls _ _ l0 t269 _ ?side1 ?side2 A62.out).mono ?_
       (case side1 => exact zaw HR0.out zG87)
       (case side2 => exact HC0.out)
       rintro e w78 ⟨v270, rfl, ho0, hb⟩
       refine ⟨_, rfl, ?_⟩
       obtain ⟨n0_, n1_, n2_, n3_, n4_, n5_, n6_, n7_, n8_, n9_⟩ := zD10 (zak zK246 (zag ho0) hb) (zak zK260 (zag ho0) hb) (zam (zao (zao (zca (M := fun k_ => (P4_0_ k_ ∨ w.heap.size ≤ k_)) ho0 zK149 (fun k_ h_ => .inr h_)) (zaf zK246)) (zaf zK260)) (zo zG88)) (zp (g := gi1) (o := .cells #[.slice A1_0 l1_0.length c1_0] 59 (0, 0)) zK242 hb) (zp (g := gi2) (o := .cells #[.slice A2_0 l2_0.length c2_0] 60 (0, 0)) zK243 hb) (zp (g := gi3) (o := .cells #[.bool x4000_2] 4 (0, 0)) zG110 hb) (zp (g := gi4) (o := .cells #[u5000, .int .i64 x5001_2] 64 (0, 0)) zG111 hb) (zp (g := gi5) (o := .cells #[.func (.func 96) #[] #[.pointer (some ⟨gi1, 0, none⟩), .pointer (some ⟨gi2, 0, none⟩), .pointer (some ⟨gi3, 0, none⟩), .pointer (some ⟨gi4, 0, none⟩), .pointer (some ⟨gi5, 0, none⟩)]] 106 (0, 0)) zK244 hb) (Kept.below (S := (fun k_ => ((P4_0_ k_) ∨ k_ = gi3) ∨ k_ = gi4)) zG87 hb) (zr zG88 hb)
       clear HO_5000 HO274 BK1 BK2 BK3 BK4 BK5 HK HB
       have HO_5000 := n0_
       have HO274 := n1_
       have HO271 := n2_
       have BK1 := n3_
       have BK2 := n4_
       have BK3 := n5_
       have BK4 := n6_
       have BK5 := n7_
       have HK := n8_
       have HB := n9_
       clear n0_ n1_ n2_ n3_ n4_ n5_ n6_ n7_ n8_ n9_
       (try clear hb)
       (try clear hb2)
       (try clear hk)
       (try clear hi)
       (try clear ho0)
       refine hK.out _ _ ((zk BK5.out 0).trans rfl) (fun hHeld => ?_)
       clear hK K
       refine norm_ (a' := ?_) ?_ ?_
       rotate_left
       ·show Act.put _ (some 26) _ = _
        simp only [Act.put, List.setIfInBounds_toArray, List.set_cons_zero, List.set_cons_succ, i64_w, i32_w]
        rfl
       exact norm_ zK241 (hCont (v270, v273) _ ⟨hHeld, zK223, zK224, (by (with_reducible repeat (first | apply zl | apply zm | apply zn)); exact zt HO_5000.out (fun _ hk => ⟨hk.1.1, ⟨hk.2, hk.1.2⟩⟩)), zK242, zK243, zG110, zG111, zK244, zG87, zG88⟩)
     rintro ⟨v270, v273⟩ w79 ⟨hS_, h0_, h1_, h2_, h3_, h4_, h5_, h6_, h7_, h8_, h9_⟩
     have n0_ : Aside0 (Kd.R (Kd.int .i64) 3 w79 w0.heap.size (fun k_ => (P4_0_ k_ ∨ w.heap.size ≤ k_) ∧ some k_ ≠ (v273 : Value).ownBlock ∧ some k_ ≠ (u5000 : Value).ownBlock) v270 t269) := ⟨h0_⟩
     have n1_ : Aside0 (Kd.R (Kd.int .i64) 3 w79 w0.heap.size (fun k_ => (P4_0_ k_ ∨ w.heap.size ≤ k_) ∧ some k_ ≠ (v270 : Value).ownBlock ∧ some k_ ≠ (u5000 : Value).ownBlock) v273 y272) := ⟨h1_⟩
     have n2_ : Aside0 (Kd.R (Kd.int .i64) 3 w79 w0.heap.size (fun k_ => (P4_0_ k_ ∨ w.heap.size ≤ k_) ∧ some k_ ≠ (v270 : Value).ownBlock ∧ some k_ ≠ (v273 : Value).ownBlock) u5000 x5000_2) := ⟨h2_⟩
     have n3_ : Aside0 (w79.heap[gi1]? = some (.cells #[.slice A1_0 l1_0.length c1_0] 59 (0, 0))) := ⟨h3_⟩
     have n4_ : Aside0 (w79.heap[gi2]? = some (.cells #[.slice A2_0 l2_0.length c2_0] 60 (0, 0))) := ⟨h4_⟩
     have n5_ : Aside0 (w79.heap[gi3]? = some (.cells #[.bool x4000_2] 4 (0, 0))) := ⟨h5_⟩
     have n6_ : Aside0 (w79.heap[gi4]? = some (.cells #[u5000, .int .i64 x5001_2] 64 (0, 0))) := ⟨h6_⟩
     have n7_ : Aside0 (w79.heap[gi5]? = some (.cells #[.func (.func 96) #[] #[.pointer (some ⟨gi1, 0, none⟩), .pointer (some ⟨gi2, 0, none⟩), .pointer (some ⟨gi3, 0, none⟩), .pointer (some ⟨gi4, 0, none⟩), .pointer (some ⟨gi5, 0, none⟩)]] 106 (0, 0))) := ⟨h7_⟩
     have n8_ : Aside0 (Kept w w79 (fun k_ => ((P4_0_ k_) ∨ k_ = gi3) ∨ k_ = gi4)) := ⟨h8_⟩
     have n9_ : Aside0 (Below w0.heap.size w0 w79) := ⟨h9_⟩
     clear HO_5000
     clear BK1
     clear BK2
     clear BK3
     clear BK4
     clear BK5
     clear HK
     clear HB
     clear h0_ h1_ h2_ h3_ h4_ h5_ h6_ h7_ h8_ h9_
     have HO271 := n0_
     have HO274 := n1_
     have HO_5000 := n2_
     have BK1 := n3_
     have BK2 := n4_
     have BK3 := n5_
     have BK4 := n6_
     have BK5 := n7_
     have HK := n8_
     have HB := n9_
     clear n0_ n1_ n2_ n3_ n4_ n5_ n6_ n7_ n8_ n9_
     have hHeld : w79.cell? ⟨gi5, 0, none⟩ = some (.func (.func 96) #[] #[.pointer (some ⟨gi1, 0, none⟩), .pointer (some ⟨gi2, 0, none⟩), .pointer (some ⟨gi3, 0, none⟩), .pointer (some ⟨gi4, 0, none⟩), .pointer (some ⟨gi5, 0, none⟩)]) := hS_
     obtain ⟨Ao81, co81, eo81⟩ := zal HO274.out
     (first | subst eo81 | (injection eo81 with f1_ f2_ f3_; have f4_ := f1_.symm; have f5_ := f3_.symm; clear f1_ f2_ f3_; subst f4_; subst f5_))
     refine norm_ (a' := ?_) ?_ ?_
     rotate_left
     ·simp only [putAll, Act.put, List.setIfInBounds_toArray, List.set_cons_zero, List.set_cons_succ]
      rfl
     refine one_ (i := 5) (N := some 29) #[true, true, true, true, true, true, false] rfl rfl zG130 zG131 (fun K hK => ?_)
     refine Kd.R_append_rows_step (Kd.int .i64) (w0 := w0) w0.heap.size (by rfl) (.tmp 26) (.tmp 28) 24 3 (.int .i64 0) 8 rfl Try.underlying24 info3 rfl zG131 (by omega) v270 t269 y272 _ _ _ (fun k_ => (P4_0_ k_ ∨ w.heap.size ≤ k_) ∧ some k_ ≠ (u5000 : Value).ownBlock ∧ some k_ ≠ (.slice Ao81 y272.length co81 : Value).ownBlock) (fun _ => False) rfl rfl ?aO ?aR (fun _ _ h => h) (fun _ h => h.elim) ?aF ?aB ?aS ?aL ?_
     (case aR => repeat (first | exact (zad HO274.out).2.2 | (with_reducible refine zaa ?_ _) | (with_reducible refine zab ?_ _) | (with_reducible refine zac ?_)))
     (case aB => exact zG88)
     (case aF => exact (fun k_ hk => ⟨(.inr (Nat.le_trans zK149 hk)), Kd.fresh' (zaf zK246) k_ hk, Kd.fresh' (zaf zK260) k_ hk⟩))
     (case aO => exact (by (with_reducible repeat (first | apply zl | apply zm | apply zn)); exact zt HO271.out (fun _ hk => ⟨hk.1, ⟨hk.2.2, hk.2.1⟩⟩)))
     (case aS => exact (zo zG88))
     (case aL => have := LMc63.out; omega)
     intro v276 w80 ho hb hg hat
     rw [← Ny275.out] at ho
     obtain ⟨n0_, n1_, n2_, n3_, n4_, n5_, n6_, n7_, n8_, n9_⟩ := zD10 (zbn (ok := (fun k_ => (P4_0_ k_ ∨ w.heap.size ≤ k_) ∧ some k_ ≠ (.slice Ao81 y272.length co81 : Value).ownBlock)) (by (with_reducible repeat (first | apply zl | apply zm | apply zn)); exact zt HO_5000.out (fun _ hk => ⟨⟨hk.1, hk.2.2⟩, hk.2.1⟩)) hg hat) (zas (g := gi1) (o := .cells #[.slice A1_0 l1_0.length c1_0] 59 (0, 0)) zK242 hg (zbj HO271.out BK1.out zG131)) (zas (g := gi2) (o := .cells #[.slice A2_0 l2_0.length c2_0] 60 (0, 0)) zK243 hg (zbj HO271.out BK2.out zG131)) (zas (g := gi3) (o := .cells #[.bool x4000_2] 4 (0, 0)) zG110 hg (zbj HO271.out BK3.out zG131)) (zas (g := gi4) (o := .cells #[u5000, .int .i64 x5001_2] 64 (0, 0)) zG111 hg (zbj HO271.out BK4.out zG131)) (zas (g := gi5) (o := .cells #[.func (.func 96) #[] #[.pointer (some ⟨gi1, 0, none⟩), .pointer (some ⟨gi2, 0, none⟩), .pointer (some ⟨gi3, 0, none⟩), .pointer (some ⟨gi4, 0, none⟩), .pointer (some ⟨gi5, 0, none⟩)]] 106 (0, 0)) zK244 hg (zbj HO271.out BK5.out zG131)) (zbn (ok := (fun k_ => (P4_0_ k_ ∨ w.heap.size ≤ k_) ∧ some k_ ≠ (u5000 : Value).ownBlock)) (by (with_reducible repeat (first | apply zl | apply zm | apply zn)); exact zt HO274.out (fun _ hk => ⟨⟨hk.1, hk.2.2⟩, hk.2.1⟩)) hg hat) (hb) (zby (S := (fun k_ => ((P4_0_ k_) ∨ k_ = gi3) ∨ k_ = gi4)) hg zG87 (fun k_ e_ => (Or.imp_left (fun z_ => (Or.inl (Or.inl z_))) ((HO271.out.1 k_ e_).1)))) (ho)
     clear HO_5000 BK1 BK2 BK3 BK4 BK5 HO274 HB HK HO271
     have HO_5000 := n0_
     have BK1 := n1_
     have BK2 := n2_
     have BK3 := n3_
     have BK4 := n4_
     have BK5 := n5_
     have HO274 := n6_
     have HB := n7_
     have HK := n8_
     have HO277 := n9_
     clear n0_ n1_ n2_ n3_ n4_ n5_ n6_ n7_ n8_ n9_
     clear ho hb hg hat
     obtain ⟨Ao82, co82, eo82⟩ := zal HO277.out
     (first | subst eo82 | (injection eo82 with f1_ f2_ f3_; have f4_ := f1_.symm; have f5_ := f3_.symm; clear f1_ f2_ f3_; subst f4_; subst f5_))
     obtain ⟨Ao83, co83, eo83⟩ := zal HO_5000.out
     (first | subst eo83 | (injection eo83 with f1_ f2_ f3_; have f4_ := f1_.symm; have f5_ := f3_.symm; clear f1_ f2_ f3_; subst f4_; subst f5_))
     refine hK.out _ _ ((zk BK5.out 0).trans rfl) (fun hHeld => ?_)
     clear hK K
     refine norm_ (a' := ?_) ?_ ?_
     rotate_left
     ·show Act.put _ (some 29) _ = _
      simp only [Act.put, List.setIfInBounds_toArray, List.set_cons_zero, List.set_cons_succ, i64_w, i32_w]
      rfl
     refine one_ (i := 6) (N := some 30) #[true, true, true, true, true, true, true] rfl rfl zG130 zG131 (fun K hK => ?_)
     refine goesV_ (args0 := #[.slice Ao82 y275.length co82]) Try.func96 zG130 rfl #[.slice Ao82 y275.length co82, .pointer (some ⟨gi1, 0, none⟩), .pointer (some ⟨gi2, 0, none⟩), .pointer (some ⟨gi3, 0, none⟩), .pointer (some ⟨gi4, 0, none⟩), .pointer (some ⟨gi5, 0, none⟩)] (by rfl) rfl rfl (by rfl) zG93 (by rfl) ?_
     with_reducible refine (ih k2 (by have := HJ7.out; have := HK2.out; omega) _ _ y275 gi1 A1_0 c1_0 l1_0 gi2 A2_0 c2_0 l2_0 gi3 x4000_2 gi4 (fun k_ => some k_ = (.slice Ao83 x5000_2.length co83 : Value).ownBlock) (.slice Ao83 x5000_2.length co83) x5000_2 x5001_2 gi5 t278 t279 t282 w0 _ ?side1 ?side2 ?side3 ?side4 ?side5 ?side6 ?side7 ?side8 ?side9 ?side10 ?side11 ?side12 ?side13 ?side14 ?side15 ?side16 ?side17 ?side18 ?side19 ?side20 ?side21 ?side22 ?side23 ?side24 ?side25 A64.out).mono ?_
     (case side1 => repeat (first | (with_reducible first | exact HB.out | apply zi | apply zc | apply zh | refine zf ?_ GE1.out | refine zf ?_ GE2.out | refine zf ?_ GE3.out | refine zf ?_ GE4.out | refine zf ?_ GE5.out) | exact HB.out))
     (case side2 => exact Kd.C_kept_own ((zv (zv HO277.out BK3.out zG131) BK4.out zG131)) (fun k_ hk_ hs_ => Or.elim hs_ (fun hs_ => Or.elim hs_ (fun hs_ => (hk_.1.1.2.1) hs_) (fun e_ => (hk_.1.2) e_)) (fun e_ => (hk_.2) e_)))
     (case side3 => exact (zad HO277.out).2.1)
     (case side4 => exact zK242)
     (case side5 => exact zcc HR1_0.out zG87 (fun k_ hs_ => Or.elim hs_ (fun hs_ => Or.elim hs_ (fun hs_ => (fun e_ => (Or.imp_left (fun z_ => (Or.inl (Or.inl z_))) ((HO_5000.out.1 k_ e_.symm).1.1))) hs_) (fun e_ => .inl (Or.inl (Or.inr e_)))) (fun e_ => .inl (Or.inr e_))))
     (case side6 => exact HC1_0.out)
     (case side7 => exact zK243)
     (case side8 => exact NB1_2.out)
     (case side9 => exact zcc HR2_0.out zG87 (fun k_ hs_ => Or.elim hs_ (fun hs_ => Or.elim hs_ (fun hs_ => (fun e_ => (Or.imp_left (fun z_ => (Or.inl (Or.inl z_))) ((HO_5000.out.1 k_ e_.symm).1.1))) hs_) (fun e_ => .inl (Or.inl (Or.inr e_)))) (fun e_ => .inl (Or.inr e_))))
     (case side10 => exact HC2_0.out)
     (case side11 => exact zG110)
     (case side12 => exact GE3.out)
     (case side13 => exact NB1_3.out)
     (case side14 => exact NB2_3.out)
     (case side15 => exact zG111)
     (case side16 => exact GE4.out)
     (case side17 => exact NB1_4.out)
     (case side18 => exact NB2_4.out)
     (case side19 => exact NB3_4.out)
     (case side20 => exact zbw rfl HO_5000.out)
     (case side21 => exact zK244)
     (case side22 => exact NB1_5.out)
     (case side23 => exact NB2_5.out)
     (case side24 => exact NB3_5.out)
     (case side25 => exact NB4_5.out)
     rintro e w84 ⟨v280, rfl, ho0, hz0, hz1, hb, hkp⟩
     refine ⟨_, rfl, ?_⟩
     obtain ⟨n0_, n1_, n2_, n3_, n4_, n5_, n6_, n7_, n8_, n9_⟩ := zD10 (zbl zK242 hkp (fun hs_ => Or.elim hs_ (fun hs_ => Or.elim hs_ (fun hs_ => (fun e_ => (zbj HO_5000.out BK1.out zG131) e_) hs_) (fun e_ => NB1_3.out e_)) (fun e_ => NB1_4.out e_))) (zbl zK243 hkp (fun hs_ => Or.elim hs_ (fun hs_ => Or.elim hs_ (fun hs_ => (fun e_ => (zbj HO_5000.out BK2.out zG131) e_) hs_) (fun e_ => NB2_3.out e_)) (fun e_ => NB2_4.out e_))) (hz0) (hz1) (zbl zK244 hkp (fun hs_ => Or.elim hs_ (fun hs_ => Or.elim hs_ (fun hs_ => (fun e_ => (zbj HO_5000.out BK5.out zG131) e_) hs_) (fun e_ => NB5_3.out e_)) (fun e_ => NB5_4.out e_))) (zt (ok' := fun k_ => (P4_0_ k_ ∨ w.heap.size ≤ k_) ∧ some k_ ≠ (.slice Ao82 y275.length co82 : Value).ownBlock ∧ some k_ ≠ (v280 : Value).ownBlock) (Kd.R_keptB ((zv (zv HO274.out BK3.out zG131) BK4.out zG131)) hkp (fun k_ hk_ hs_ => Or.elim hs_ (fun hs_ => Or.elim hs_ (fun hs_ => (hk_.1.1.1.2) hs_) (fun e_ => (hk_.1.2) e_)) (fun e_ => (hk_.2) e_))) (fun k_ hk_ => ⟨hk_.1.1.1.1.1, hk_.1.1.1.2, fun e_ => Or.elim (ho0.1 k_ e_.symm) (fun hs_ => hk_.2.1 (Or.inl (Or.inl hs_))) (fun hn_ => Nat.not_le.2 hk_.2.2 hn_)⟩)) (zt (ok' := fun k_ => (P4_0_ k_ ∨ w.heap.size ≤ k_) ∧ some k_ ≠ (.slice Ao81 y272.length co81 : Value).ownBlock ∧ some k_ ≠ (v280 : Value).ownBlock) (Kd.R_keptB ((zv (zv HO277.out BK3.out zG131) BK4.out zG131)) hkp (fun k_ hk_ hs_ => Or.elim hs_ (fun hs_ => Or.elim hs_ (fun hs_ => (hk_.1.1.2.1) hs_) (fun e_ => (hk_.1.2) e_)) (fun e_ => (hk_.2) e_))) (fun k_ hk_ => ⟨hk_.1.1.1.1, hk_.1.1.1.2.2, fun e_ => Or.elim (ho0.1 k_ e_.symm) (fun hs_ => hk_.2.1 (Or.inl (Or.inl hs_))) (fun hn_ => Nat.not_le.2 hk_.2.2 hn_)⟩)) (zt (ok' := fun k_ => (P4_0_ k_ ∨ w.heap.size ≤ k_) ∧ some k_ ≠ (.slice Ao81 y272.length co81 : Value).ownBlock ∧ some k_ ≠ (.slice Ao82 y275.length co82 : Value).ownBlock) ho0 (fun k_ hk_ => ⟨Or.elim hk_ (fun hs_ => (HO_5000.out.1 k_ (hs_).symm).1.1) (fun hn_ => (.inr (Nat.le_trans zK149 hn_))), Or.elim hk_ (fun hs_ => fun e_ => ((((zv (zv HO274.out BK3.out zG131) BK4.out zG131)).1 k_ e_.symm).1.1.1.2) hs_) (fun hn_ => (Kd.fresh' (zaf zK260) k_ hn_)), Or.elim hk_ (fun hs_ => fun e_ => ((((zv (zv HO277.out BK3.out zG131) BK4.out zG131)).1 k_ e_.symm).1.1.2.1) hs_) (fun hn_ => (Kd.fresh' (zaf (by (with_reducible repeat (first | apply zl | apply zm | apply zn)); exact HO277.out)) k_ hn_))⟩)) (Kept.then_ (S := (fun k_ => ((P4_0_ k_) ∨ k_ = gi3) ∨ k_ = gi4)) zG87 hkp (fun k_ hs_ => Or.elim hs_ (fun hs_ => Or.elim hs_ (fun hs_ => (fun e_ => (Or.imp_left (fun z_ => (Or.inl (Or.inl z_))) ((HO_5000.out.1 k_ e_.symm).1.1))) hs_) (fun e_ => .inl (Or.inl (Or.inr e_)))) (fun e_ => .inl (Or.inr e_)))) (hb)
     clear BK1 BK2 BK3 BK4 BK5 HO274 HO277 HK HB HO_5000
     have BK1 := n0_
     have BK2 := n1_
     have BK3 := n2_
     have BK4 := n3_
     have BK5 := n4_
     have HO274 := n5_
     have HO277 := n6_
     have HO281 := n7_
     have HK := n8_
     have HB := n9_
     clear n0_ n1_ n2_ n3_ n4_ n5_ n6_ n7_ n8_ n9_
     (try clear hb)
     (try clear hkp)
     (try clear ho0)
     (try clear hz0)
     (try clear hz1)
     refine hK.out _ _ ((zk BK5.out 0).trans rfl) (fun hHeld => ?_)
     clear hK K
     refine norm_ (a' := ?_) ?_ ?_
     rotate_left
     ·show Act.put _ (some 30) _ = _
      simp only [Act.put, List.setIfInBounds_toArray, List.set_cons_zero, List.set_cons_succ, i64_w, i32_w]
      rfl
     refine done_ zG130 ?_
     try go_wp2
     go_roundg k2
     case measure => have := HJ7.out; have := HK2.out; omega
     case rel => exact ⟨(wrap64 (x15_2 + 1)), (t278), (t279), (t282), (v280), zG129, H', ⟨by have := HJ7.out; have := HK2.out; omega⟩, ⟨by (with_reducible repeat (first | apply zl | apply zm | apply zn)); exact zt HO281.out (fun _ hk => hk.1)⟩, ⟨zH108⟩, ⟨zH109⟩, ⟨zH110⟩, ⟨zH111⟩, ⟨zH112⟩, ⟨zH32⟩, ⟨zH33⟩⟩
end Go.Proofs.Ytojncbpeeboooaa.Y
