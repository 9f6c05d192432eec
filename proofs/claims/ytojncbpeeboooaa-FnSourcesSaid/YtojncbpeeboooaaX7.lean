-- squeezed
-- made by pp.py (wip/tools) out of the translation; Lean checks it
import Derived.Test.YtojncbpeeboooaaX0
import Derived.Test.YtojncbpeeboooaaX5
import Derived.Test.YtojncbpeeboooaaX6
namespace Go.Proofs.Ytojncbpeeboooaa.X
open Go.RowKit Go.Proofs.YtojncbpeeboooaaW.PrintWords Go.Proofs.YtojncbpeeboooaaW.PrintLast Go.Proofs.YtojncbpeeboooaaW.PrintMore
attribute [local go_sem] max2_int min2_int max_two min_two max_three min_three max_four min_four   -- for this text's walks alone
set_option linter.unusedVariables false
set_option linter.unusedSimpArgs false

abbrev b7A0 := zM 7 31
abbrev b7A1 := zM 10 0
abbrev b7A2 := zM 10 2
abbrev b7A3 := zM 10 34
abbrev b7A4 := zM 10 98
abbrev b7A5 := zM 10 99
abbrev b7A6 := zM 10 103
abbrev b7A7 := zM 10 111
abbrev b7A8 := zM 10 127
abbrev b7A9 := zM 10 255
abbrev b7A10 := zM 10 511
abbrev b7A11 := zM 10 1023
/-! ### impl_BestSource_1: function 80 -/
mutual
def impl_BestSource_1.l0 : Nat → List Int → Int → Int → List (S124) → List (S58) → Bool → List Int → Int → Int → Option (Bool × List Int × Int × Int)
 | 0, _, _, _, _, _, _, _, _, _ => none
 | k + 1, x0, x34, x35, x2000, x3000, x4000, x5000, x5001, x5002 => if x35 < x34 then (if 0 ≤ x35 then (if x35 < (x3000.length : Int) then (if 0 ≤ (x0.length : Int) then (if (x0.length : Int) < (x2000.length : Int) then ((impl_Source_gives.f k ((rd_T58 x3000 x35).f0) ((rd_T58 x3000 x35).f1) ((rd_T58 x3000 x35).f2) ((rd_T124 x2000 (x0.length : Int)).f0) ((rd_T124 x2000 (x0.length : Int)).f1)).bind fun t256 => (if t256 = true then ((slices_Clone_int_int.f x0).bind fun t257 => ((some (([x35] : List Int) : List Int)).bind fun y260 => (if t257.length + y260.length < 17592186044416 then ((impl_BestSource_1.f k (t257 ++ y260) x2000 x3000 x4000 x5000 x5001 x5002).bind fun bt266 => (impl_BestSource_1.l0 k x0 x34 (wrap64 (x35 + 1)) x2000 x3000 bt266.1 bt266.2.1 bt266.2.2.1 bt266.2.2.2)) else (none)))) else (impl_BestSource_1.l0 k x0 x34 (wrap64 (x35 + 1)) x2000 x3000 x4000 x5000 x5001 x5002))) else (none)) else (none)) else (none)) else (none)) else (some (x4000, x5000, x5001, x5002))
def impl_BestSource_1.f : Nat → List Int → List (S124) → List (S58) → Bool → List Int → Int → Int → Option (Bool × List Int × Int × Int)
 | 0, _, _, _, _, _, _, _ => none
 | k + 1, l0, l1_0, l2_0, a3_0, l4_0, a4_1, a4_2 => if (l0.length : Int) = (l1_0.length : Int) then ((impl_sourceOf.f k l2_0 l1_0 l0).bind fun bt246 => (if bt246.2.2.2 = true then (if a3_0 = true then ((impl_isCheaper.f bt246.1 bt246.2.1 bt246.2.2.1 l4_0 a4_1 a4_2).bind fun t253 => (if t253 = true then (some (true, bt246.1, bt246.2.1, bt246.2.2.1)) else (some (a3_0, l4_0, a4_1, a4_2)))) else (some (true, bt246.1, bt246.2.1, bt246.2.2.1))) else (some (a3_0, l4_0, a4_1, a4_2)))) else (impl_BestSource_1.l0 k l0 (l2_0.length : Int) 0 l1_0 l2_0 a3_0 l4_0 a4_1 a4_2)
end
theorem impl_BestSource_1.mono_l : ∀ k, (∀ y0 y1 y2 y3 y4 y5 y6, LeO (impl_BestSource_1.f k y0 y1 y2 y3 y4 y5 y6) (impl_BestSource_1.f (k + 1) y0 y1 y2 y3 y4 y5 y6)) ∧ (∀ y0 y1 y2 y3 y4 y5 y6 y7 y8, LeO (impl_BestSource_1.l0 k y0 y1 y2 y3 y4 y5 y6 y7 y8) (impl_BestSource_1.l0 (k + 1) y0 y1 y2 y3 y4 y5 y6 y7 y8))
 | 0 => ⟨fun _ _ _ _ _ _ _ r h => by simp [impl_BestSource_1.f] at h, fun _ _ _ _ _ _ _ _ _ r h => by simp [impl_BestSource_1.l0] at h⟩
 | k + 1 => by
  obtain ⟨ih0, ih1⟩ := impl_BestSource_1.mono_l k
  refine ⟨?_, ?_⟩
  ·intro y0 y1 y2 y3 y4 y5 y6
   unfold impl_BestSource_1.f
   repeat' first
   | (with_reducible exact ih0 _ _ _ _ _ _ _)
   | (with_reducible exact ih1 _ _ _ _ _ _ _ _ _)
   | (with_reducible exact impl_Source_gives.mono _ _ _ _ _ _)
   | (with_reducible exact impl_sourceOf.mono _ _ _ _)
   | (with_reducible exact LeO.refl _)
   | (with_reducible exact LeO.none _)
   | (with_reducible refine LeO.ite ?_ ?_)
   | (with_reducible refine LeO.bind ?_ (fun _ => ?_))
   | exact ih0 _ _ _ _ _ _ _
   | exact ih1 _ _ _ _ _ _ _ _ _
   | exact impl_Source_gives.mono _ _ _ _ _ _
   | exact impl_sourceOf.mono _ _ _ _
   | exact LeO.none _
   | refine LeO.ite ?_ ?_
   | refine LeO.bind ?_ (fun _ => ?_)
  ·intro y0 y1 y2 y3 y4 y5 y6 y7 y8
   unfold impl_BestSource_1.l0
   repeat' first
   | (with_reducible exact ih0 _ _ _ _ _ _ _)
   | (with_reducible exact ih1 _ _ _ _ _ _ _ _ _)
   | (with_reducible exact impl_Source_gives.mono _ _ _ _ _ _)
   | (with_reducible exact impl_sourceOf.mono _ _ _ _)
   | (with_reducible exact LeO.refl _)
   | (with_reducible exact LeO.none _)
   | (with_reducible refine LeO.ite ?_ ?_)
   | (with_reducible refine LeO.bind ?_ (fun _ => ?_))
   | exact ih0 _ _ _ _ _ _ _
   | exact ih1 _ _ _ _ _ _ _ _ _
   | exact impl_Source_gives.mono _ _ _ _ _ _
   | exact impl_sourceOf.mono _ _ _ _
   | exact LeO.none _
   | refine LeO.ite ?_ ?_
   | refine LeO.bind ?_ (fun _ => ?_)
theorem impl_BestSource_1.mono : ∀ a0 a1 a2 a3 a4 a5 a6 k, LeO (impl_BestSource_1.f k a0 a1 a2 a3 a4 a5 a6) (impl_BestSource_1.f (k + 1) a0 a1 a2 a3 a4 a5 a6) := by
 intro a0 a1 a2 a3 a4 a5 a6 k
 obtain ⟨ih0, ih1⟩ := impl_BestSource_1.mono_l k
 exact ih0 a0 a1 a2 a3 a4 a5 a6
def impl_BestSource_1.T7 : Bool × List (List Nat × List Nat) := (true, [([], []), ([], []), ([0, 1], [0, 1]), ([2], [2]), ([], []), ([], []), ([5], [5]), ([4, 6], [4, 6]), ([7], [7]), ([3, 8], [3, 8])])
def impl_BestSource_1.B7 : List Nat := [0, 0, 3, 7, 0, 0, 32, 112, 240, 511]
theorem impl_BestSource_1.tab7 : rtab .any (opsOf Try.f80 7) = impl_BestSource_1.T7 := by kernel_rfl
theorem impl_BestSource_1.bits7 : waitsOk impl_BestSource_1.T7.2 impl_BestSource_1.B7 = true := by kernel_rfl
set_option maxHeartbeats 64000000 in
set_option maxRecDepth 100000 in
theorem impl_BestSource_1.calls (k : Nat) : ∀ (A0 : Option Addr) (c0 : Nat) (l0 : List Int) (gi1 : Nat) (A1_0 : Option Addr) (c1_0 : Nat) (l1_0 : List (S124)) (gi2 : Nat) (A2_0 : Option Addr) (c2_0 : Nat) (l2_0 : List (S58)) (gi3 : Nat) (a3_0 : Bool) (gi4 : Nat) (P4_0_ : Nat → Prop) (u9000_ : Value) (l4_0 : List Int) (a4_1 : Int) (a4_2 : Int) (gi5 : Nat) (r1 : Bool) (r2 : List Int) (r3 : Int) (r4 : Int) (w0 w : World) (hB : Below w0.heap.size w0 w) (hr0 : ∀ W_, Kept w W_ (fun k_ => ((P4_0_ k_) ∨ k_ = gi3) ∨ k_ = gi4) → Kd.C (Kd.int .i64) W_ A0 l0.length l0) (hc0 : l0.length ≤ c0) (hbk1 : w.heap[gi1]? = some (.cells #[.slice A1_0 l1_0.length c1_0] 48 (0, 0))) (hr1_0 : ∀ W_, Kept w W_ (fun k_ => ((P4_0_ k_) ∨ k_ = gi3) ∨ k_ = gi4) → Kd.C k124 W_ A1_0 l1_0.length l1_0) (hc1_0 : l1_0.length ≤ c1_0) (hbk2 : w.heap[gi2]? = some (.cells #[.slice A2_0 l2_0.length c2_0] 47 (0, 0))) (hnb1_2 : gi1 ≠ gi2) (hr2_0 : ∀ W_, Kept w W_ (fun k_ => ((P4_0_ k_) ∨ k_ = gi3) ∨ k_ = gi4) → Kd.C k58 W_ A2_0 l2_0.length l2_0) (hc2_0 : l2_0.length ≤ c2_0) (hbk3 : w.heap[gi3]? = some (.cells #[.bool a3_0] 4 (0, 0))) (hge3 : w0.heap.size ≤ gi3) (hnb1_3 : gi1 ≠ gi3) (hnb2_3 : gi2 ≠ gi3) (hbk4 : w.heap[gi4]? = some (.cells #[u9000_, .int .i64 a4_1, .int .i64 a4_2] 52 (0, 0))) (hge4 : w0.heap.size ≤ gi4) (hnb1_4 : gi1 ≠ gi4) (hnb2_4 : gi2 ≠ gi4) (hnb3_4 : gi3 ≠ gi4) (ho4_0 : Kd.R (Kd.int .i64) 3 w w0.heap.size P4_0_ u9000_ l4_0) (hbk5 : w.heap[gi5]? = some (.cells #[.func (.func 80) #[] #[.pointer (some ⟨gi1, 0, none⟩), .pointer (some ⟨gi2, 0, none⟩), .pointer (some ⟨gi3, 0, none⟩), .pointer (some ⟨gi4, 0, none⟩), .pointer (some ⟨gi5, 0, none⟩)]] 106 (0, 0))) (hnb1_5 : gi1 ≠ gi5) (hnb2_5 : gi2 ≠ gi5) (hnb3_5 : gi3 ≠ gi5) (hnb4_5 : gi4 ≠ gi5) (h : impl_BestSource_1.f k l0 l1_0 l2_0 a3_0 l4_0 a4_1 a4_2 = some (r1, r2, r3, r4)),
  Calls Try.prog 80 #[.slice A0 l0.length c0, .pointer (some ⟨gi1, 0, none⟩), .pointer (some ⟨gi2, 0, none⟩), .pointer (some ⟨gi3, 0, none⟩), .pointer (some ⟨gi4, 0, none⟩), .pointer (some ⟨gi5, 0, none⟩)] w fun e w' => ∃ v1_ : Value, e = .returned (.tuple #[]) ∧ Kd.R (Kd.int .i64) 3 w' w0.heap.size (fun k_ => (P4_0_ k_ ∨ w.heap.size ≤ k_)) v1_ r2 ∧ w'.heap[gi3]? = some (.cells #[.bool r1] 4 (0, 0)) ∧ w'.heap[gi4]? = some (.cells #[v1_, .int .i64 r3, .int .i64 r4] 52 (0, 0)) ∧ Below w0.heap.size w0 w' ∧ Kept w w' (fun k_ => ((P4_0_ k_) ∨ k_ = gi3) ∨ k_ = gi4) := by
 induction k using Nat.strongRecOn with
 | _ k ih =>
 intro A0 c0 l0 gi1 A1_0 c1_0 l1_0 gi2 A2_0 c2_0 l2_0 gi3 a3_0 gi4 P4_0_ u9000_ l4_0 a4_1 a4_2 gi5 r1 r2 r3 r4 w0 w hB hr0 hc0 hbk1 hr1_0 hc1_0 hbk2 hnb1_2 hr2_0 hc2_0 hbk3 hge3 hnb1_3 hnb2_3 hbk4 hge4 hnb1_4 hnb2_4 hnb3_4 ho4_0 hbk5 hnb1_5 hnb2_5 hnb3_5 hnb4_5 h
 cases k with
 | zero => exact absurd h (by simp [impl_BestSource_1.f])
 | succ k =>
 simp only [impl_BestSource_1.f] at h
 have hu52 := Try.underlying52
 have hu58 := Try.underlying58
 have hu124 := Try.underlying124
 obtain ⟨HR0, HC0, HR1_0, HC1_0, HR2_0, HC2_0, HO4_0, BK1, BK2, NB1_2, NB2_1, BK3, GE3, NB1_3, NB3_1, NB2_3⟩ := zD16 hr0 hc0 hr1_0 hc1_0 hr2_0 hc2_0 (show Kd.R (Kd.int .i64) 3 w w0.heap.size (fun k_ => (P4_0_ k_ ∨ w.heap.size ≤ k_)) u9000_ l4_0 from zs ho4_0 (fun k_ hk => (.inl hk))) hbk1 hbk2 hnb1_2 (Ne.symm hnb1_2) hbk3 hge3 hnb1_3 (Ne.symm hnb1_3) hnb2_3
 clear hr0 hc0 hr1_0 hc1_0 hr2_0 hc2_0 hbk1 hbk2 hnb1_2 hbk3 hge3 hnb1_3
 obtain ⟨NB3_2, BK4, GE4, NB1_4, NB4_1, NB2_4, NB4_2, NB3_4, NB4_3, BK5, NB1_5, NB5_1, NB2_5, NB5_2, NB3_5, NB5_3⟩ := zD16 (Ne.symm hnb2_3) hbk4 hge4 hnb1_4 (Ne.symm hnb1_4) hnb2_4 (Ne.symm hnb2_4) hnb3_4 (Ne.symm hnb3_4) hbk5 hnb1_5 (Ne.symm hnb1_5) hnb2_5 (Ne.symm hnb2_5) hnb3_5 (Ne.symm hnb3_5)
 clear hnb2_3 hbk4 hge4 hnb1_4 hnb2_4 hnb3_4 hbk5 hnb1_5 hnb2_5
 clear hnb3_5
 obtain ⟨NB4_5, NB5_4, HK, HW0, HB⟩ := zD5 hnb4_5 (Ne.symm hnb4_5) (Kept.refl w (fun k_ => ((P4_0_ k_) ∨ k_ = gi3) ∨ k_ = gi4)) hB.size hB
 clear hnb4_5 hB
 have H : (if (l0.length : Int) = (l1_0.length : Int) then ((impl_sourceOf.f k l2_0 l1_0 l0).bind fun bt246 => (if bt246.2.2.2 = true then (if a3_0 = true then ((impl_isCheaper.f bt246.1 bt246.2.1 bt246.2.2.1 l4_0 a4_1 a4_2).bind fun t253 => (if t253 = true then (some (true, bt246.1, bt246.2.1, bt246.2.2.1)) else (some (a3_0, l4_0, a4_1, a4_2)))) else (some (true, bt246.1, bt246.2.1, bt246.2.2.1))) else (some (a3_0, l4_0, a4_1, a4_2)))) else (impl_BestSource_1.l0 k l0 (l2_0.length : Int) 0 l1_0 l2_0 a3_0 l4_0 a4_1 a4_2)) = some (r1, r2, r3, r4) := h
 clear h
 by_cases c7 : (l0.length : Int) = (l1_0.length : Int)
 ·rw [if_pos c7] at H
  have c7b0 : ((l0.length : Int) == (l1_0.length : Int)) = true := beq_iff_eq.mpr c7
  have c7b1 : ((l0.length : Int) != (l1_0.length : Int)) = false := bne_eq_false_iff_eq.mpr c7
  have c7b2 : (l0.length == l1_0.length) = true := by first | simpa using c7 | (simp at c7 ⊢; omega)
  clear c7
  replace H := Option.bind_eq_some_iff.mp H
  obtain ⟨⟨t246, t249, t250, t251⟩, A80, H⟩ := H
  replace H : (if t251 = true then (if a3_0 = true then ((impl_isCheaper.f t246 t249 t250 l4_0 a4_1 a4_2).bind fun t253 => (if t253 = true then (some (true, t246, t249, t250)) else (some (a3_0, l4_0, a4_1, a4_2)))) else (some (true, t246, t249, t250))) else (some (a3_0, l4_0, a4_1, a4_2))) = some (r1, r2, r3, r4) := H
  have A8 := za A80
  clear A80
  by_cases c9 : t251 = true
  rotate_left
  ·replace c9 := Bool.eq_false_iff.mpr c9
   subst c9
   have H1 : (some (a3_0, l4_0, a4_1, a4_2)) = some (r1, r2, r3, r4) := by rw [if_neg (show ¬ (false = true) by decide)] at H; exact H
   clear H
   have H := H1
   clear H1
   simp only [Option.some.injEq, Prod.mk.injEq] at H
   obtain ⟨rfl, rfl, rfl, rfl⟩ := H
   have hnb89 := NB1_2.out
   have hnc89 := NB2_1.out
   have hnb90 := NB1_3.out
   have hnc90 := NB3_1.out
   have hnb91 := NB1_4.out
   have hnc91 := NB4_1.out
   have hnb92 := NB1_5.out
   have hnc92 := NB5_1.out
   obtain ⟨hcz93_0, hfz93_0⟩ := zB1 BK1.out
   have hnb94 := NB2_3.out
   have hnc94 := NB3_2.out
   have hnb95 := NB2_4.out
   have hnc95 := NB4_2.out
   have hnb96 := NB2_5.out
   have hnc96 := NB5_2.out
   obtain ⟨hcz97_0, hfz97_0⟩ := zB1 BK2.out
   go_enter Try.func80, Try.ntmps80
   go_wp2_with (first | ((with_reducible refine gate_callee (f := 81) rfl ?_); refine goesL_ (some 19) rfl rfl Try.func81 zG128 rfl #[.slice A2_0 l2_0.length c2_0, .slice A1_0 l1_0.length c1_0, .slice A0 l0.length c0] rfl zG97 ?_; (with_reducible refine (impl_sourceOf.calls k _ _ l2_0 _ _ l1_0 _ _ l0 t246 t249 t250 false _ ?side1 ?side2 ?side3 ?side4 ?side5 ?side6 A8.out).mono ?_); (case side1 => exact zah HR2_0.out zG88); (case side2 => exact HC2_0.out); (case side3 => exact zah HR1_0.out zG88); (case side4 => exact HC1_0.out); (case side5 => exact zah HR0.out zG88); (case side6 => exact zH128); rintro e w98 ⟨v247, rfl, ho0, hb⟩; refine ⟨_, rfl, ?_⟩; have n_ := zA_ (za (zal zK249 (zaj ho0) hb)) (zA_ (za (zam (zap (zbb (M := fun k_ => (P4_0_ k_ ∨ w.heap.size ≤ k_)) ho0 zG86 (fun k_ h_ => .inr h_)) (zaf zK249)) (zq zG89))) (zA_ (za (zp (g := gi1) (o := .cells #[.slice A1_0 l1_0.length c1_0] 48 (0, 0)) zG114 hb)) (zA_ (za (zp (g := gi2) (o := .cells #[.slice A2_0 l2_0.length c2_0] 47 (0, 0)) zG115 hb)) (zA_ (za (zp (g := gi3) (o := .cells #[.bool a3_0] 4 (0, 0)) zG116 hb)) (zA_ (za (zp (g := gi4) (o := .cells #[u9000_, .int .i64 a4_1, .int .i64 a4_2] 52 (0, 0)) zG117 hb)) (zA_ (za (zp (g := gi5) (o := .cells #[.func (.func 80) #[] #[.pointer (some ⟨gi1, 0, none⟩), .pointer (some ⟨gi2, 0, none⟩), .pointer (some ⟨gi3, 0, none⟩), .pointer (some ⟨gi4, 0, none⟩), .pointer (some ⟨gi5, 0, none⟩)]] 106 (0, 0)) zG118 hb)) (zA_ (za (Kept.below (S := (fun k_ => ((P4_0_ k_) ∨ k_ = gi3) ∨ k_ = gi4)) zG88 hb)) (za (zu zG89 hb))))))))); clear HO4_0 BK1 BK2 BK3 BK4 BK5 HK HB; obtain ⟨HO4_0, HO248, BK1, BK2, BK3, BK4, BK5, HK, HB⟩ := n_; (try clear hb); (try clear ho0)) | ((with_reducible refine gate_dst (N := 7) rfl ?_); refine box_event ?hg (N := 7) ?hd (cs := #[.slice none 0 0, .int .i64 0, .int .i64 0]) (t := 52) ?hr ?_; (case hd => rfl); (case hg => rfl); (case hr => exact zH119); intro gb252 hg w99 hbox hb; have n_ := zA_ (za (zv zK249 hb)) (zA_ (za (zv zK250 hb)) (zA_ (za (zp (g := gi1) (o := .cells #[.slice A1_0 l1_0.length c1_0] 48 (0, 0)) zG114 hb)) (zA_ (za (zp (g := gi2) (o := .cells #[.slice A2_0 l2_0.length c2_0] 47 (0, 0)) zG115 hb)) (zA_ (za (zp (g := gi3) (o := .cells #[.bool a3_0] 4 (0, 0)) zG116 hb)) (zA_ (za (zp (g := gi4) (o := .cells #[u9000_, .int .i64 a4_1, .int .i64 a4_2] 52 (0, 0)) zG117 hb)) (zA_ (za (zp (g := gi5) (o := .cells #[.func (.func 80) #[] #[.pointer (some ⟨gi1, 0, none⟩), .pointer (some ⟨gi2, 0, none⟩), .pointer (some ⟨gi3, 0, none⟩), .pointer (some ⟨gi4, 0, none⟩), .pointer (some ⟨gi5, 0, none⟩)]] 106 (0, 0)) zG118 hb)) (zA_ (za (Kept.below (S := (fun k_ => ((P4_0_ k_) ∨ k_ = gi3) ∨ k_ = gi4)) zG88 hb)) (zA_ (za (zu zG89 hb)) (zA_ (za (hbox)) (zA_ (zN1 w.heap.size hg zG86) (zA_ (zN1 w0.heap.size hg (zq zG89)) (zN3 hg (zz (g := gi1) (o := .cells #[.slice A1_0 l1_0.length c1_0] 48 (0, 0)) zG114) (zN3 hg (zz (g := gi2) (o := .cells #[.slice A2_0 l2_0.length c2_0] 47 (0, 0)) zG115) (zN3 hg (zz (g := gi3) (o := .cells #[.bool a3_0] 4 (0, 0)) zG116) (zN3 hg (zz (g := gi4) (o := .cells #[u9000_, .int .i64 a4_1, .int .i64 a4_2] 52 (0, 0)) zG117) (zN2 hg (zz (g := gi5) (o := .cells #[.func (.func 80) #[] #[.pointer (some ⟨gi1, 0, none⟩), .pointer (some ⟨gi2, 0, none⟩), .pointer (some ⟨gi3, 0, none⟩), .pointer (some ⟨gi4, 0, none⟩), .pointer (some ⟨gi5, 0, none⟩)]] 106 (0, 0)) zG118))))))))))))))))); clear HO4_0 HO248 BK1 BK2 BK3 BK4 BK5 HK HB; obtain ⟨HO4_0, HO248, BK1, BK2, BK3, BK4, BK5, HK, HB, BK252, GW252, GE252, NB1_252, NB252_1, NB2_252, NB252_2, NB3_252, NB252_3, NB4_252, NB252_4, NB5_252, NB252_5⟩ := n_; clear hb hbox hg; obtain ⟨Ao100, co100, eo100⟩ := zan HO248.out; subst eo100; have hnb101 := NB252_1.out; have hnc101 := NB1_252.out; have hnb102 := NB252_2.out; have hnc102 := NB2_252.out; have hnb103 := NB252_3.out; have hnc103 := NB3_252.out; have hnb104 := NB252_4.out; have hnc104 := NB4_252.out; have hnb105 := NB252_5.out; have hnc105 := NB5_252.out; obtain ⟨hcz106_0, hcz106_1, hcz106_2, hfz106_0, hfz106_1, hfz106_2⟩ := zB3 BK252.out))
   first | go_end0 | ((try simp only [Exit.inBlock, Exit.then]); refine bodyPost_ret (results_none rfl _ _ _) rfl ?_)
   exact ⟨_, zH111, by (with_reducible repeat (first | apply zj | apply zk | apply zl)); exact zs (zo (p := ⟨gb252, 2, none⟩) (zo (p := ⟨gb252, 1, none⟩) (zo (p := ⟨gb252, 0, none⟩) (zt HO4_0.out BK252.out zG129) (fun _ hk => hk.2) (.slice Ao100 t246.length co100)) (fun _ hk => hk.2) (.int .i64 t249)) (fun _ hk => hk.2) (.int .i64 t250)) (fun _ hk => hk.1.1), zK148, zK149, zH26, zH18⟩
  subst c9
  have H1 : (if a3_0 = true then ((impl_isCheaper.f t246 t249 t250 l4_0 a4_1 a4_2).bind fun t253 => (if t253 = true then (some (true, t246, t249, t250)) else (some (a3_0, l4_0, a4_1, a4_2)))) else (some (true, t246, t249, t250))) = some (r1, r2, r3, r4) := by rw [if_pos rfl] at H; exact H
  clear H
  have H := H1
  clear H1
  by_cases c10 : a3_0 = true
  rotate_left
  ·replace c10 := Bool.eq_false_iff.mpr c10
   subst c10
   have H1 : (some (true, t246, t249, t250)) = some (r1, r2, r3, r4) := by rw [if_neg (show ¬ (false = true) by decide)] at H; exact H
   clear H
   have H := H1
   clear H1
   simp only [Option.some.injEq, Prod.mk.injEq] at H
   obtain ⟨rfl, rfl, rfl, rfl⟩ := H
   have hnb66 := NB1_2.out
   have hnc66 := NB2_1.out
   have hnb67 := NB1_3.out
   have hnc67 := NB3_1.out
   have hnb68 := NB1_4.out
   have hnc68 := NB4_1.out
   have hnb69 := NB1_5.out
   have hnc69 := NB5_1.out
   obtain ⟨hcz70_0, hfz70_0⟩ := zB1 BK1.out
   have hnb71 := NB2_3.out
   have hnc71 := NB3_2.out
   have hnb72 := NB2_4.out
   have hnc72 := NB4_2.out
   have hnb73 := NB2_5.out
   have hnc73 := NB5_2.out
   obtain ⟨hcz74_0, hfz74_0⟩ := zB1 BK2.out
   go_enter Try.func80, Try.ntmps80
   go_wp2_with (first | ((with_reducible refine gate_callee (f := 81) rfl ?_); refine goesL_ (some 19) rfl rfl Try.func81 zG128 rfl #[.slice A2_0 l2_0.length c2_0, .slice A1_0 l1_0.length c1_0, .slice A0 l0.length c0] rfl zG97 ?_; (with_reducible refine (impl_sourceOf.calls k _ _ l2_0 _ _ l1_0 _ _ l0 t246 t249 t250 true _ ?side1 ?side2 ?side3 ?side4 ?side5 ?side6 A8.out).mono ?_); (case side1 => exact zah HR2_0.out zG88); (case side2 => exact HC2_0.out); (case side3 => exact zah HR1_0.out zG88); (case side4 => exact HC1_0.out); (case side5 => exact zah HR0.out zG88); (case side6 => exact zH128); rintro e w75 ⟨v247, rfl, ho0, hb⟩; refine ⟨_, rfl, ?_⟩; have n_ := zA_ (za (zal zK249 (zaj ho0) hb)) (zA_ (za (zam (zap (zbb (M := fun k_ => (P4_0_ k_ ∨ w.heap.size ≤ k_)) ho0 zG86 (fun k_ h_ => .inr h_)) (zaf zK249)) (zq zG89))) (zA_ (za (zp (g := gi1) (o := .cells #[.slice A1_0 l1_0.length c1_0] 48 (0, 0)) zG114 hb)) (zA_ (za (zp (g := gi2) (o := .cells #[.slice A2_0 l2_0.length c2_0] 47 (0, 0)) zG115 hb)) (zA_ (za (zp (g := gi3) (o := .cells #[.bool false] 4 (0, 0)) zG116 hb)) (zA_ (za (zp (g := gi4) (o := .cells #[u9000_, .int .i64 a4_1, .int .i64 a4_2] 52 (0, 0)) zG117 hb)) (zA_ (za (zp (g := gi5) (o := .cells #[.func (.func 80) #[] #[.pointer (some ⟨gi1, 0, none⟩), .pointer (some ⟨gi2, 0, none⟩), .pointer (some ⟨gi3, 0, none⟩), .pointer (some ⟨gi4, 0, none⟩), .pointer (some ⟨gi5, 0, none⟩)]] 106 (0, 0)) zG118 hb)) (zA_ (za (Kept.below (S := (fun k_ => ((P4_0_ k_) ∨ k_ = gi3) ∨ k_ = gi4)) zG88 hb)) (za (zu zG89 hb))))))))); clear HO4_0 BK1 BK2 BK3 BK4 BK5 HK HB; obtain ⟨HO4_0, HO248, BK1, BK2, BK3, BK4, BK5, HK, HB⟩ := n_; (try clear hb); (try clear ho0)) | ((with_reducible refine gate_dst (N := 7) rfl ?_); refine box_event ?hg (N := 7) ?hd (cs := #[.slice none 0 0, .int .i64 0, .int .i64 0]) (t := 52) ?hr ?_; (case hd => rfl); (case hg => rfl); (case hr => exact zH119); intro gb252 hg w76 hbox hb; have n_ := zA_ (za (zv zK249 hb)) (zA_ (za (zv zK250 hb)) (zA_ (za (zp (g := gi1) (o := .cells #[.slice A1_0 l1_0.length c1_0] 48 (0, 0)) zG114 hb)) (zA_ (za (zp (g := gi2) (o := .cells #[.slice A2_0 l2_0.length c2_0] 47 (0, 0)) zG115 hb)) (zA_ (za (zp (g := gi3) (o := .cells #[.bool false] 4 (0, 0)) zG116 hb)) (zA_ (za (zp (g := gi4) (o := .cells #[u9000_, .int .i64 a4_1, .int .i64 a4_2] 52 (0, 0)) zG117 hb)) (zA_ (za (zp (g := gi5) (o := .cells #[.func (.func 80) #[] #[.pointer (some ⟨gi1, 0, none⟩), .pointer (some ⟨gi2, 0, none⟩), .pointer (some ⟨gi3, 0, none⟩), .pointer (some ⟨gi4, 0, none⟩), .pointer (some ⟨gi5, 0, none⟩)]] 106 (0, 0)) zG118 hb)) (zA_ (za (Kept.below (S := (fun k_ => ((P4_0_ k_) ∨ k_ = gi3) ∨ k_ = gi4)) zG88 hb)) (zA_ (za (zu zG89 hb)) (zA_ (za (hbox)) (zA_ (zN1 w.heap.size hg zG86) (zA_ (zN1 w0.heap.size hg (zq zG89)) (zN3 hg (zz (g := gi1) (o := .cells #[.slice A1_0 l1_0.length c1_0] 48 (0, 0)) zG114) (zN3 hg (zz (g := gi2) (o := .cells #[.slice A2_0 l2_0.length c2_0] 47 (0, 0)) zG115) (zN3 hg (zz (g := gi3) (o := .cells #[.bool false] 4 (0, 0)) zG116) (zN3 hg (zz (g := gi4) (o := .cells #[u9000_, .int .i64 a4_1, .int .i64 a4_2] 52 (0, 0)) zG117) (zN2 hg (zz (g := gi5) (o := .cells #[.func (.func 80) #[] #[.pointer (some ⟨gi1, 0, none⟩), .pointer (some ⟨gi2, 0, none⟩), .pointer (some ⟨gi3, 0, none⟩), .pointer (some ⟨gi4, 0, none⟩), .pointer (some ⟨gi5, 0, none⟩)]] 106 (0, 0)) zG118))))))))))))))))); clear HO4_0 HO248 BK1 BK2 BK3 BK4 BK5 HK HB; obtain ⟨HO4_0, HO248, BK1, BK2, BK3, BK4, BK5, HK, HB, BK252, GW252, GE252, NB1_252, NB252_1, NB2_252, NB252_2, NB3_252, NB252_3, NB4_252, NB252_4, NB5_252, NB252_5⟩ := n_; clear hb hbox hg; obtain ⟨Ao77, co77, eo77⟩ := zan HO248.out; subst eo77; have hnb78 := NB252_1.out; have hnc78 := NB1_252.out; have hnb79 := NB252_2.out; have hnc79 := NB2_252.out; have hnb80 := NB252_3.out; have hnc80 := NB3_252.out; have hnb81 := NB252_4.out; have hnc81 := NB4_252.out; have hnb82 := NB252_5.out; have hnc82 := NB5_252.out; obtain ⟨hcz83_0, hcz83_1, hcz83_2, hfz83_0, hfz83_1, hfz83_2⟩ := zB3 BK252.out; have hnb84 := NB3_4.out; have hnc84 := NB4_3.out; have hnb85 := NB3_5.out; have hnc85 := NB5_3.out; obtain ⟨hcz86_0, hfz86_0⟩ := zB1 BK3.out; have hnb87 := NB4_5.out; have hnc87 := NB5_4.out; obtain ⟨hcz88_0, hcz88_1, hcz88_2, hfz88_0, hfz88_1, hfz88_2⟩ := zB3 BK4.out))
   first | go_end0 | ((try simp only [Exit.inBlock, Exit.then]); refine bodyPost_ret (results_none rfl _ _ _) rfl ?_)
   exact ⟨_, zH111, by (with_reducible repeat (first | apply zj | apply zk | apply zl)); exact zs (zo (p := ⟨gi3, 0, none⟩) (zo (p := ⟨gi4, 2, none⟩) (zo (p := ⟨gi4, 1, none⟩) (zo (p := ⟨gi4, 0, none⟩) (zo (p := ⟨gb252, 2, none⟩) (zo (p := ⟨gb252, 1, none⟩) (zo (p := ⟨gb252, 0, none⟩) (zt (zt (zt HO248.out BK252.out zG129) BK4.out zG129) BK3.out zG129) (fun _ hk => hk.1.1.2) (.slice Ao77 t246.length co77)) (fun _ hk => hk.1.1.2) (.int .i64 t249)) (fun _ hk => hk.1.1.2) (.int .i64 t250)) (fun _ hk => hk.1.2) (.slice Ao77 t246.length co77)) (fun _ hk => hk.1.2) (.int .i64 t249)) (fun _ hk => hk.1.2) (.int .i64 t250)) (fun _ hk => hk.2) (.bool true)) (fun _ hk => hk.1.1.1.1.1), (by (with_reducible repeat (first | refine zc ?_ _ | refine zd ?_ | refine zb ?_ _)); refine zw (cs := #[.bool false]) ?_ 0 _ rfl; (with_reducible repeat (first | refine zc ?_ _ | refine zd ?_ | refine zb ?_ _)); refine zr ?_ NB3_4.out _; (with_reducible repeat (first | refine zc ?_ _ | refine zd ?_ | refine zb ?_ _)); refine zr ?_ NB3_4.out _; (with_reducible repeat (first | refine zc ?_ _ | refine zd ?_ | refine zb ?_ _)); refine zr ?_ NB3_4.out _; (with_reducible repeat (first | refine zc ?_ _ | refine zd ?_ | refine zb ?_ _)); refine zr ?_ NB3_252.out _; (with_reducible repeat (first | refine zc ?_ _ | refine zd ?_ | refine zb ?_ _)); refine zr ?_ NB3_252.out _; (with_reducible repeat (first | refine zc ?_ _ | refine zd ?_ | refine zb ?_ _)); refine zr ?_ NB3_252.out _; (with_reducible repeat (first | refine zc ?_ _ | refine zd ?_ | refine zb ?_ _)); exact BK3.out), (by (with_reducible repeat (first | refine zc ?_ _ | refine zd ?_ | refine zb ?_ _)); refine zr ?_ NB4_3.out _; (with_reducible repeat (first | refine zc ?_ _ | refine zd ?_ | refine zb ?_ _)); refine zw (cs := #[.slice Ao77 t246.length co77, .int .i64 t249, .int .i64 a4_2]) ?_ 2 _ rfl; (with_reducible repeat (first | refine zc ?_ _ | refine zd ?_ | refine zb ?_ _)); refine zw (cs := #[.slice Ao77 t246.length co77, .int .i64 a4_1, .int .i64 a4_2]) ?_ 1 _ rfl; (with_reducible repeat (first | refine zc ?_ _ | refine zd ?_ | refine zb ?_ _)); refine zw (cs := #[u9000_, .int .i64 a4_1, .int .i64 a4_2]) ?_ 0 _ rfl; (with_reducible repeat (first | refine zc ?_ _ | refine zd ?_ | refine zb ?_ _)); refine zr ?_ NB4_252.out _; (with_reducible repeat (first | refine zc ?_ _ | refine zd ?_ | refine zb ?_ _)); refine zr ?_ NB4_252.out _; (with_reducible repeat (first | refine zc ?_ _ | refine zd ?_ | refine zb ?_ _)); refine zr ?_ NB4_252.out _; (with_reducible repeat (first | refine zc ?_ _ | refine zd ?_ | refine zb ?_ _)); exact BK4.out), zH26, zH18⟩
  subst c10
  have H1 : ((impl_isCheaper.f t246 t249 t250 l4_0 a4_1 a4_2).bind fun t253 => (if t253 = true then (some (true, t246, t249, t250)) else (some (true, l4_0, a4_1, a4_2)))) = some (r1, r2, r3, r4) := by rw [if_pos rfl] at H; exact H
  clear H
  have H := H1
  clear H1
  replace H := Option.bind_eq_some_iff.mp H
  obtain ⟨t253, A110, H⟩ := H
  replace H : (if t253 = true then (some (true, t246, t249, t250)) else (some (true, l4_0, a4_1, a4_2))) = some (r1, r2, r3, r4) := H
  have A11 := za A110
  clear A110
  by_cases c12 : t253 = true
  ·subst c12
   have H1 : (some (true, t246, t249, t250)) = some (r1, r2, r3, r4) := by rw [if_pos rfl] at H; exact H
   clear H
   have H := H1
   clear H1
   simp only [Option.some.injEq, Prod.mk.injEq] at H
   obtain ⟨rfl, rfl, rfl, rfl⟩ := H
   have hnb13 := NB1_2.out
   have hnc13 := NB2_1.out
   have hnb14 := NB1_3.out
   have hnc14 := NB3_1.out
   have hnb15 := NB1_4.out
   have hnc15 := NB4_1.out
   have hnb16 := NB1_5.out
   have hnc16 := NB5_1.out
   obtain ⟨hcz17_0, hfz17_0⟩ := zB1 BK1.out
   have hnb18 := NB2_3.out
   have hnc18 := NB3_2.out
   have hnb19 := NB2_4.out
   have hnc19 := NB4_2.out
   have hnb20 := NB2_5.out
   have hnc20 := NB5_2.out
   obtain ⟨hcz21_0, hfz21_0⟩ := zB1 BK2.out
   go_enter Try.func80, Try.ntmps80
   go_wp2_with (first | ((with_reducible refine gate_callee (f := 81) rfl ?_); refine goesL_ (some 19) rfl rfl Try.func81 zG128 rfl #[.slice A2_0 l2_0.length c2_0, .slice A1_0 l1_0.length c1_0, .slice A0 l0.length c0] rfl zG97 ?_; (with_reducible refine (impl_sourceOf.calls k _ _ l2_0 _ _ l1_0 _ _ l0 t246 t249 t250 true _ ?side1 ?side2 ?side3 ?side4 ?side5 ?side6 A8.out).mono ?_); (case side1 => exact zah HR2_0.out zG88); (case side2 => exact HC2_0.out); (case side3 => exact zah HR1_0.out zG88); (case side4 => exact HC1_0.out); (case side5 => exact zah HR0.out zG88); (case side6 => exact zH128); rintro e w22 ⟨v247, rfl, ho0, hb⟩; refine ⟨_, rfl, ?_⟩; have n_ := zA_ (za (zal zK249 (zaj ho0) hb)) (zA_ (za (zam (zap (zbb (M := fun k_ => (P4_0_ k_ ∨ w.heap.size ≤ k_)) ho0 zG86 (fun k_ h_ => .inr h_)) (zaf zK249)) (zq zG89))) (zA_ (za (zp (g := gi1) (o := .cells #[.slice A1_0 l1_0.length c1_0] 48 (0, 0)) zG114 hb)) (zA_ (za (zp (g := gi2) (o := .cells #[.slice A2_0 l2_0.length c2_0] 47 (0, 0)) zG115 hb)) (zA_ (za (zp (g := gi3) (o := .cells #[.bool true] 4 (0, 0)) zG116 hb)) (zA_ (za (zp (g := gi4) (o := .cells #[u9000_, .int .i64 a4_1, .int .i64 a4_2] 52 (0, 0)) zG117 hb)) (zA_ (za (zp (g := gi5) (o := .cells #[.func (.func 80) #[] #[.pointer (some ⟨gi1, 0, none⟩), .pointer (some ⟨gi2, 0, none⟩), .pointer (some ⟨gi3, 0, none⟩), .pointer (some ⟨gi4, 0, none⟩), .pointer (some ⟨gi5, 0, none⟩)]] 106 (0, 0)) zG118 hb)) (zA_ (za (Kept.below (S := (fun k_ => ((P4_0_ k_) ∨ k_ = gi3) ∨ k_ = gi4)) zG88 hb)) (za (zu zG89 hb))))))))); clear HO4_0 BK1 BK2 BK3 BK4 BK5 HK HB; obtain ⟨HO4_0, HO248, BK1, BK2, BK3, BK4, BK5, HK, HB⟩ := n_; (try clear hb); (try clear hk); (try clear ho0)) | ((with_reducible refine gate_dst (N := 7) rfl ?_); refine box_event ?hg (N := 7) ?hd (cs := #[.slice none 0 0, .int .i64 0, .int .i64 0]) (t := 52) ?hr ?_; (case hd => rfl); (case hg => rfl); (case hr => exact zH119); intro gb252 hg w23 hbox hb; have n_ := zA_ (za (zv zK249 hb)) (zA_ (za (zv zK250 hb)) (zA_ (za (zp (g := gi1) (o := .cells #[.slice A1_0 l1_0.length c1_0] 48 (0, 0)) zG114 hb)) (zA_ (za (zp (g := gi2) (o := .cells #[.slice A2_0 l2_0.length c2_0] 47 (0, 0)) zG115 hb)) (zA_ (za (zp (g := gi3) (o := .cells #[.bool true] 4 (0, 0)) zG116 hb)) (zA_ (za (zp (g := gi4) (o := .cells #[u9000_, .int .i64 a4_1, .int .i64 a4_2] 52 (0, 0)) zG117 hb)) (zA_ (za (zp (g := gi5) (o := .cells #[.func (.func 80) #[] #[.pointer (some ⟨gi1, 0, none⟩), .pointer (some ⟨gi2, 0, none⟩), .pointer (some ⟨gi3, 0, none⟩), .pointer (some ⟨gi4, 0, none⟩), .pointer (some ⟨gi5, 0, none⟩)]] 106 (0, 0)) zG118 hb)) (zA_ (za (Kept.below (S := (fun k_ => ((P4_0_ k_) ∨ k_ = gi3) ∨ k_ = gi4)) zG88 hb)) (zA_ (za (zu zG89 hb)) (zA_ (za (hbox)) (zA_ (zN1 w.heap.size hg zG86) (zA_ (zN1 w0.heap.size hg (zq zG89)) (zN3 hg (zz (g := gi1) (o := .cells #[.slice A1_0 l1_0.length c1_0] 48 (0, 0)) zG114) (zN3 hg (zz (g := gi2) (o := .cells #[.slice A2_0 l2_0.length c2_0] 47 (0, 0)) zG115) (zN3 hg (zz (g := gi3) (o := .cells #[.bool true] 4 (0, 0)) zG116) (zN3 hg (zz (g := gi4) (o := .cells #[u9000_, .int .i64 a4_1, .int .i64 a4_2] 52 (0, 0)) zG117) (zN2 hg (zz (g := gi5) (o := .cells #[.func (.func 80) #[] #[.pointer (some ⟨gi1, 0, none⟩), .pointer (some ⟨gi2, 0, none⟩), .pointer (some ⟨gi3, 0, none⟩), .pointer (some ⟨gi4, 0, none⟩), .pointer (some ⟨gi5, 0, none⟩)]] 106 (0, 0)) zG118))))))))))))))))); clear HO4_0 HO248 BK1 BK2 BK3 BK4 BK5 HK HB; obtain ⟨HO4_0, HO248, BK1, BK2, BK3, BK4, BK5, HK, HB, BK252, GW252, GE252, NB1_252, NB252_1, NB2_252, NB252_2, NB3_252, NB252_3, NB4_252, NB252_4, NB5_252, NB252_5⟩ := n_; clear hb hbox hg; obtain ⟨Ao24, co24, eo24⟩ := zan HO248.out; subst eo24; have hnb25 := NB252_1.out; have hnc25 := NB1_252.out; have hnb26 := NB252_2.out; have hnc26 := NB2_252.out; have hnb27 := NB252_3.out; have hnc27 := NB3_252.out; have hnb28 := NB252_4.out; have hnc28 := NB4_252.out; have hnb29 := NB252_5.out; have hnc29 := NB5_252.out; obtain ⟨hcz30_0, hcz30_1, hcz30_2, hfz30_0, hfz30_1, hfz30_2⟩ := zB3 BK252.out; have hnb31 := NB3_4.out; have hnc31 := NB4_3.out; have hnb32 := NB3_5.out; have hnc32 := NB5_3.out; obtain ⟨hcz33_0, hfz33_0⟩ := zB1 BK3.out; have hnb34 := NB4_5.out; have hnc34 := NB5_4.out; obtain ⟨hcz35_0, hcz35_1, hcz35_2, hfz35_0, hfz35_1, hfz35_2⟩ := zB3 BK4.out; obtain ⟨Ao36, co36, eo36⟩ := zan HO4_0.out; subst eo36) | (go_at_call 82; (with_reducible refine (impl_isCheaper.calls _ _ t246 t249 t250 _ _ l4_0 a4_1 a4_2 true _ ?side1 ?side2 ?side3 ?side4 A11.out).mono ?_); (case side1 => refine (zae (e := 3) (base := w0.heap.size) (ok := fun k_ => (((P4_0_ k_ ∨ w.heap.size ≤ k_) ∧ True) ∧ some k_ ≠ (.slice Ao36 l4_0.length co36 : Value).ownBlock)) (n := t246.length) (c := co24) ?_).2.2; exact zK182); (case side2 => exact (zae HO248.out).2.1); (case side3 => refine (zae (e := 3) (base := w0.heap.size) (ok := fun k_ => ((P4_0_ k_ ∨ w.heap.size ≤ k_) ∧ some k_ ≠ (.slice Ao24 t246.length co24 : Value).ownBlock)) (n := l4_0.length) (c := co36) ?_).2.2; exact zK183); (case side4 => exact (zae HO4_0.out).2.1); rintro e w37 ⟨rfl, hb⟩; have n_ := zA_ (za (zv zK183 hb)) (zA_ (za (zv zK182 hb)) (zA_ (za (zp (g := gi1) (o := .cells #[.slice A1_0 l1_0.length c1_0] 48 (0, 0)) zK146 hb)) (zA_ (za (zp (g := gi2) (o := .cells #[.slice A2_0 l2_0.length c2_0] 47 (0, 0)) zK147 hb)) (zA_ (za (zp (g := gi3) (o := .cells #[.bool true] 4 (0, 0)) zK148 hb)) (zA_ (za (zp (g := gi4) (o := .cells #[.slice Ao36 l4_0.length co36, .int .i64 a4_1, .int .i64 a4_2] 52 (0, 0)) zK149 hb)) (zA_ (za (zp (g := gi5) (o := .cells #[.func (.func 80) #[] #[.pointer (some ⟨gi1, 0, none⟩), .pointer (some ⟨gi2, 0, none⟩), .pointer (some ⟨gi3, 0, none⟩), .pointer (some ⟨gi4, 0, none⟩), .pointer (some ⟨gi5, 0, none⟩)]] 106 (0, 0)) zK150 hb)) (zA_ (za (zp (g := gb252) (o := .cells #[.slice Ao24 t246.length co24, .int .i64 t249, .int .i64 t250] 52 (0, 0)) (by (with_reducible repeat (first | refine zc ?_ _ | refine zd ?_ | refine zb ?_ _)); refine zw (cs := #[.slice Ao24 t246.length co24, .int .i64 t249, .int .i64 0]) ?_ 2 _ rfl; (with_reducible repeat (first | refine zc ?_ _ | refine zd ?_ | refine zb ?_ _)); refine zw (cs := #[.slice Ao24 t246.length co24, .int .i64 0, .int .i64 0]) ?_ 1 _ rfl; (with_reducible repeat (first | refine zc ?_ _ | refine zd ?_ | refine zb ?_ _)); refine zw (cs := #[.slice none 0 0, .int .i64 0, .int .i64 0]) ?_ 0 _ rfl; (with_reducible repeat (first | refine zc ?_ _ | refine zd ?_ | refine zb ?_ _)); exact BK252.out) hb)) (zA_ (za (Kept.below (S := (fun k_ => ((P4_0_ k_) ∨ k_ = gi3) ∨ k_ = gi4)) zK192 hb)) (za (zu zK193 hb)))))))))); clear HO4_0 HO248 BK1 BK2 BK3 BK4 BK5 BK252 HK HB; obtain ⟨HO4_0, HO248, BK1, BK2, BK3, BK4, BK5, BK252, HK, HB⟩ := n_; (try clear hb); (try clear hk); obtain ⟨hcz38_0, hcz38_1, hcz38_2, hfz38_0, hfz38_1, hfz38_2⟩ := zB3 BK252.out; obtain ⟨hcz39_0, hcz39_1, hcz39_2, hfz39_0, hfz39_1, hfz39_2⟩ := zB3 BK4.out; obtain ⟨hcz40_0, hfz40_0⟩ := zB1 BK3.out))
   first | go_end0 | ((try simp only [Exit.inBlock, Exit.then]); refine bodyPost_ret (results_none rfl _ _ _) rfl ?_)
   exact ⟨_, zH111, by (with_reducible repeat (first | apply zj | apply zk | apply zl)); exact zs (zo (p := ⟨gi3, 0, none⟩) (zo (p := ⟨gi4, 2, none⟩) (zo (p := ⟨gi4, 1, none⟩) (zo (p := ⟨gi4, 0, none⟩) (zt (zt HO248.out BK4.out zG129) BK3.out zG129) (fun _ hk => hk.1.2) (.slice Ao24 t246.length co24)) (fun _ hk => hk.1.2) (.int .i64 t249)) (fun _ hk => hk.1.2) (.int .i64 t250)) (fun _ hk => hk.2) (.bool true)) (fun _ hk => hk.1.1.1.1), (by (with_reducible repeat (first | refine zc ?_ _ | refine zd ?_ | refine zb ?_ _)); refine zw (cs := #[.bool true]) ?_ 0 _ rfl; (with_reducible repeat (first | refine zc ?_ _ | refine zd ?_ | refine zb ?_ _)); refine zr ?_ NB3_4.out _; (with_reducible repeat (first | refine zc ?_ _ | refine zd ?_ | refine zb ?_ _)); refine zr ?_ NB3_4.out _; (with_reducible repeat (first | refine zc ?_ _ | refine zd ?_ | refine zb ?_ _)); refine zr ?_ NB3_4.out _; (with_reducible repeat (first | refine zc ?_ _ | refine zd ?_ | refine zb ?_ _)); exact BK3.out), (by (with_reducible repeat (first | refine zc ?_ _ | refine zd ?_ | refine zb ?_ _)); refine zr ?_ NB4_3.out _; (with_reducible repeat (first | refine zc ?_ _ | refine zd ?_ | refine zb ?_ _)); refine zw (cs := #[.slice Ao24 t246.length co24, .int .i64 t249, .int .i64 a4_2]) ?_ 2 _ rfl; (with_reducible repeat (first | refine zc ?_ _ | refine zd ?_ | refine zb ?_ _)); refine zw (cs := #[.slice Ao24 t246.length co24, .int .i64 a4_1, .int .i64 a4_2]) ?_ 1 _ rfl; (with_reducible repeat (first | refine zc ?_ _ | refine zd ?_ | refine zb ?_ _)); refine zw (cs := #[.slice Ao36 l4_0.length co36, .int .i64 a4_1, .int .i64 a4_2]) ?_ 0 _ rfl; (with_reducible repeat (first | refine zc ?_ _ | refine zd ?_ | refine zb ?_ _)); exact BK4.out), zH26, zH18⟩
  replace c12 := Bool.eq_false_iff.mpr c12
  subst c12
  have H1 : (some (true, l4_0, a4_1, a4_2)) = some (r1, r2, r3, r4) := by rw [if_neg (show ¬ (false = true) by decide)] at H; exact H
  clear H
  have H := H1
  clear H1
  simp only [Option.some.injEq, Prod.mk.injEq] at H
  obtain ⟨rfl, rfl, rfl, rfl⟩ := H
  have hnb41 := NB1_2.out
  have hnc41 := NB2_1.out
  have hnb42 := NB1_3.out
  have hnc42 := NB3_1.out
  have hnb43 := NB1_4.out
  have hnc43 := NB4_1.out
  have hnb44 := NB1_5.out
  have hnc44 := NB5_1.out
  obtain ⟨hcz45_0, hfz45_0⟩ := zB1 BK1.out
  have hnb46 := NB2_3.out
  have hnc46 := NB3_2.out
  have hnb47 := NB2_4.out
  have hnc47 := NB4_2.out
  have hnb48 := NB2_5.out
  have hnc48 := NB5_2.out
  obtain ⟨hcz49_0, hfz49_0⟩ := zB1 BK2.out
  go_enter Try.func80, Try.ntmps80
  go_wp2_with (first | ((with_reducible refine gate_callee (f := 81) rfl ?_); refine goesL_ (some 19) rfl rfl Try.func81 zG128 rfl #[.slice A2_0 l2_0.length c2_0, .slice A1_0 l1_0.length c1_0, .slice A0 l0.length c0] rfl zG97 ?_; (with_reducible refine (impl_sourceOf.calls k _ _ l2_0 _ _ l1_0 _ _ l0 t246 t249 t250 true _ ?side1 ?side2 ?side3 ?side4 ?side5 ?side6 A8.out).mono ?_); (case side1 => exact zah HR2_0.out zG88); (case side2 => exact HC2_0.out); (case side3 => exact zah HR1_0.out zG88); (case side4 => exact HC1_0.out); (case side5 => exact zah HR0.out zG88); (case side6 => exact zH128); rintro e w50 ⟨v247, rfl, ho0, hb⟩; refine ⟨_, rfl, ?_⟩; have n_ := zA_ (za (zal zK249 (zaj ho0) hb)) (zA_ (za (zam (zap (zbb (M := fun k_ => (P4_0_ k_ ∨ w.heap.size ≤ k_)) ho0 zG86 (fun k_ h_ => .inr h_)) (zaf zK249)) (zq zG89))) (zA_ (za (zp (g := gi1) (o := .cells #[.slice A1_0 l1_0.length c1_0] 48 (0, 0)) zG114 hb)) (zA_ (za (zp (g := gi2) (o := .cells #[.slice A2_0 l2_0.length c2_0] 47 (0, 0)) zG115 hb)) (zA_ (za (zp (g := gi3) (o := .cells #[.bool true] 4 (0, 0)) zG116 hb)) (zA_ (za (zp (g := gi4) (o := .cells #[u9000_, .int .i64 a4_1, .int .i64 a4_2] 52 (0, 0)) zG117 hb)) (zA_ (za (zp (g := gi5) (o := .cells #[.func (.func 80) #[] #[.pointer (some ⟨gi1, 0, none⟩), .pointer (some ⟨gi2, 0, none⟩), .pointer (some ⟨gi3, 0, none⟩), .pointer (some ⟨gi4, 0, none⟩), .pointer (some ⟨gi5, 0, none⟩)]] 106 (0, 0)) zG118 hb)) (zA_ (za (Kept.below (S := (fun k_ => ((P4_0_ k_) ∨ k_ = gi3) ∨ k_ = gi4)) zG88 hb)) (za (zu zG89 hb))))))))); clear HO4_0 BK1 BK2 BK3 BK4 BK5 HK HB; obtain ⟨HO4_0, HO248, BK1, BK2, BK3, BK4, BK5, HK, HB⟩ := n_; (try clear hb); (try clear hk); (try clear ho0)) | ((with_reducible refine gate_dst (N := 7) rfl ?_); refine box_event ?hg (N := 7) ?hd (cs := #[.slice none 0 0, .int .i64 0, .int .i64 0]) (t := 52) ?hr ?_; (case hd => rfl); (case hg => rfl); (case hr => exact zH119); intro gb252 hg w51 hbox hb; have n_ := zA_ (za (zv zK249 hb)) (zA_ (za (zv zK250 hb)) (zA_ (za (zp (g := gi1) (o := .cells #[.slice A1_0 l1_0.length c1_0] 48 (0, 0)) zG114 hb)) (zA_ (za (zp (g := gi2) (o := .cells #[.slice A2_0 l2_0.length c2_0] 47 (0, 0)) zG115 hb)) (zA_ (za (zp (g := gi3) (o := .cells #[.bool true] 4 (0, 0)) zG116 hb)) (zA_ (za (zp (g := gi4) (o := .cells #[u9000_, .int .i64 a4_1, .int .i64 a4_2] 52 (0, 0)) zG117 hb)) (zA_ (za (zp (g := gi5) (o := .cells #[.func (.func 80) #[] #[.pointer (some ⟨gi1, 0, none⟩), .pointer (some ⟨gi2, 0, none⟩), .pointer (some ⟨gi3, 0, none⟩), .pointer (some ⟨gi4, 0, none⟩), .pointer (some ⟨gi5, 0, none⟩)]] 106 (0, 0)) zG118 hb)) (zA_ (za (Kept.below (S := (fun k_ => ((P4_0_ k_) ∨ k_ = gi3) ∨ k_ = gi4)) zG88 hb)) (zA_ (za (zu zG89 hb)) (zA_ (za (hbox)) (zA_ (zN1 w.heap.size hg zG86) (zA_ (zN1 w0.heap.size hg (zq zG89)) (zN3 hg (zz (g := gi1) (o := .cells #[.slice A1_0 l1_0.length c1_0] 48 (0, 0)) zG114) (zN3 hg (zz (g := gi2) (o := .cells #[.slice A2_0 l2_0.length c2_0] 47 (0, 0)) zG115) (zN3 hg (zz (g := gi3) (o := .cells #[.bool true] 4 (0, 0)) zG116) (zN3 hg (zz (g := gi4) (o := .cells #[u9000_, .int .i64 a4_1, .int .i64 a4_2] 52 (0, 0)) zG117) (zN2 hg (zz (g := gi5) (o := .cells #[.func (.func 80) #[] #[.pointer (some ⟨gi1, 0, none⟩), .pointer (some ⟨gi2, 0, none⟩), .pointer (some ⟨gi3, 0, none⟩), .pointer (some ⟨gi4, 0, none⟩), .pointer (some ⟨gi5, 0, none⟩)]] 106 (0, 0)) zG118))))))))))))))))); clear HO4_0 HO248 BK1 BK2 BK3 BK4 BK5 HK HB; obtain ⟨HO4_0, HO248, BK1, BK2, BK3, BK4, BK5, HK, HB, BK252, GW252, GE252, NB1_252, NB252_1, NB2_252, NB252_2, NB3_252, NB252_3, NB4_252, NB252_4, NB5_252, NB252_5⟩ := n_; clear hb hbox hg; obtain ⟨Ao52, co52, eo52⟩ := zan HO248.out; subst eo52; have hnb53 := NB252_1.out; have hnc53 := NB1_252.out; have hnb54 := NB252_2.out; have hnc54 := NB2_252.out; have hnb55 := NB252_3.out; have hnc55 := NB3_252.out; have hnb56 := NB252_4.out; have hnc56 := NB4_252.out; have hnb57 := NB252_5.out; have hnc57 := NB5_252.out; obtain ⟨hcz58_0, hcz58_1, hcz58_2, hfz58_0, hfz58_1, hfz58_2⟩ := zB3 BK252.out; have hnb59 := NB3_4.out; have hnc59 := NB4_3.out; have hnb60 := NB3_5.out; have hnc60 := NB5_3.out; obtain ⟨hcz61_0, hfz61_0⟩ := zB1 BK3.out; have hnb62 := NB4_5.out; have hnc62 := NB5_4.out; obtain ⟨hcz63_0, hcz63_1, hcz63_2, hfz63_0, hfz63_1, hfz63_2⟩ := zB3 BK4.out; obtain ⟨Ao64, co64, eo64⟩ := zan HO4_0.out; subst eo64) | (go_at_call 82; (with_reducible refine (impl_isCheaper.calls _ _ t246 t249 t250 _ _ l4_0 a4_1 a4_2 false _ ?side1 ?side2 ?side3 ?side4 A11.out).mono ?_); (case side1 => refine (zae (e := 3) (base := w0.heap.size) (ok := fun k_ => (((P4_0_ k_ ∨ w.heap.size ≤ k_) ∧ True) ∧ some k_ ≠ (.slice Ao64 l4_0.length co64 : Value).ownBlock)) (n := t246.length) (c := co52) ?_).2.2; exact zK184); (case side2 => exact (zae HO248.out).2.1); (case side3 => refine (zae (e := 3) (base := w0.heap.size) (ok := fun k_ => ((P4_0_ k_ ∨ w.heap.size ≤ k_) ∧ some k_ ≠ (.slice Ao52 t246.length co52 : Value).ownBlock)) (n := l4_0.length) (c := co64) ?_).2.2; exact zK185); (case side4 => exact (zae HO4_0.out).2.1); rintro e w65 ⟨rfl, hb⟩; have n_ := zA_ (za (zv zK185 hb)) (zA_ (za (zv zK184 hb)) (zA_ (za (zp (g := gi1) (o := .cells #[.slice A1_0 l1_0.length c1_0] 48 (0, 0)) zK146 hb)) (zA_ (za (zp (g := gi2) (o := .cells #[.slice A2_0 l2_0.length c2_0] 47 (0, 0)) zK147 hb)) (zA_ (za (zp (g := gi3) (o := .cells #[.bool true] 4 (0, 0)) zK148 hb)) (zA_ (za (zp (g := gi4) (o := .cells #[.slice Ao64 l4_0.length co64, .int .i64 a4_1, .int .i64 a4_2] 52 (0, 0)) zK149 hb)) (zA_ (za (zp (g := gi5) (o := .cells #[.func (.func 80) #[] #[.pointer (some ⟨gi1, 0, none⟩), .pointer (some ⟨gi2, 0, none⟩), .pointer (some ⟨gi3, 0, none⟩), .pointer (some ⟨gi4, 0, none⟩), .pointer (some ⟨gi5, 0, none⟩)]] 106 (0, 0)) zK150 hb)) (zA_ (za (zp (g := gb252) (o := .cells #[.slice Ao52 t246.length co52, .int .i64 t249, .int .i64 t250] 52 (0, 0)) (by (with_reducible repeat (first | refine zc ?_ _ | refine zd ?_ | refine zb ?_ _)); refine zw (cs := #[.slice Ao52 t246.length co52, .int .i64 t249, .int .i64 0]) ?_ 2 _ rfl; (with_reducible repeat (first | refine zc ?_ _ | refine zd ?_ | refine zb ?_ _)); refine zw (cs := #[.slice Ao52 t246.length co52, .int .i64 0, .int .i64 0]) ?_ 1 _ rfl; (with_reducible repeat (first | refine zc ?_ _ | refine zd ?_ | refine zb ?_ _)); refine zw (cs := #[.slice none 0 0, .int .i64 0, .int .i64 0]) ?_ 0 _ rfl; (with_reducible repeat (first | refine zc ?_ _ | refine zd ?_ | refine zb ?_ _)); exact BK252.out) hb)) (zA_ (za (Kept.below (S := (fun k_ => ((P4_0_ k_) ∨ k_ = gi3) ∨ k_ = gi4)) zK192 hb)) (za (zu zK193 hb)))))))))); clear HO4_0 HO248 BK1 BK2 BK3 BK4 BK5 BK252 HK HB; obtain ⟨HO4_0, HO248, BK1, BK2, BK3, BK4, BK5, BK252, HK, HB⟩ := n_; (try clear hb); (try clear hk)))
  first | go_end0 | ((try simp only [Exit.inBlock, Exit.then]); refine bodyPost_ret (results_none rfl _ _ _) rfl ?_)
  exact ⟨_, zH111, by (with_reducible repeat (first | apply zj | apply zk | apply zl)); exact zs HO4_0.out (fun _ hk => hk.1), zG116, zG117, zH26, zH18⟩
 rw [if_neg c7] at H
 have c7b0 : ((l0.length : Int) == (l1_0.length : Int)) = false := beq_eq_false_iff_ne.mpr c7
 have c7b1 : ((l0.length : Int) != (l1_0.length : Int)) = true := bne_iff_ne.mpr c7
 have c7b2 : (l0.length == l1_0.length) = false := by first | simpa using c7 | (simp at c7 ⊢; omega)
 have H' := za H
 clear H
 have hnb107 := NB1_2.out
 have hnc107 := NB2_1.out
 have hnb108 := NB1_3.out
 have hnc108 := NB3_1.out
 have hnb109 := NB1_4.out
 have hnc109 := NB4_1.out
 have hnb110 := NB1_5.out
 have hnc110 := NB5_1.out
 obtain ⟨hcz111_0, hfz111_0⟩ := zB1 BK1.out
 have hnb112 := NB2_3.out
 have hnc112 := NB3_2.out
 have hnb113 := NB2_4.out
 have hnc113 := NB4_2.out
 have hnb114 := NB2_5.out
 have hnc114 := NB5_2.out
 obtain ⟨hcz115_0, hfz115_0⟩ := zB1 BK2.out
 go_enter Try.func80, Try.ntmps80
 go_wp2
 go_loopg [35] k (fun kq v35 w' => ∃ (x35_1 : Int) (x4000_1 : Bool) (x5000_1 : List Int) (x5001_1 : Int) (x5002_1 : Int) (u5000 : Value), v35 = .int .i64 x35_1 ∧ Aside0 (impl_BestSource_1.l0 kq l0 (l2_0.length : Int) x35_1 l1_0 l2_0 x4000_1 x5000_1 x5001_1 x5002_1 = some (r1, r2, r3, r4)) ∧ Aside0 (kq ≤ k) ∧ Aside0 (Kd.R (Kd.int .i64) 3 w' w0.heap.size (fun k_ => (P4_0_ k_ ∨ w.heap.size ≤ k_)) u5000 x5000_1) ∧ Aside0 (w'.heap[gi1]? = some (.cells #[(.slice A1_0 l1_0.length c1_0)] 48 (0, 0))) ∧ Aside0 (w'.heap[gi2]? = some (.cells #[(.slice A2_0 l2_0.length c2_0)] 47 (0, 0))) ∧ Aside0 (w'.heap[gi3]? = some (.cells #[.bool x4000_1] 4 (0, 0))) ∧ Aside0 (w'.heap[gi4]? = some (.cells #[u5000, .int .i64 x5001_1, .int .i64 x5002_1] 52 (0, 0))) ∧ Aside0 (w'.heap[gi5]? = some (.cells #[.func (.func 80) #[] #[.pointer (some ⟨gi1, 0, none⟩), .pointer (some ⟨gi2, 0, none⟩), .pointer (some ⟨gi3, 0, none⟩), .pointer (some ⟨gi4, 0, none⟩), .pointer (some ⟨gi5, 0, none⟩)]] 106 (0, 0))) ∧ Aside0 (Kept w w' (fun k_ => ((P4_0_ k_) ∨ k_ = gi3) ∨ k_ = gi4)) ∧ Aside0 (Below w0.heap.size w0 w'))
 case atStart => exact ⟨(0), (a3_0), (l4_0), (a4_1), (a4_2), (u9000_), zG127, H', ⟨Nat.le_refl _⟩, ⟨by (with_reducible repeat (first | apply zj | apply zk | apply zl)); exact HO4_0.out⟩, ⟨zH106⟩, ⟨zH107⟩, ⟨zH108⟩, ⟨zH109⟩, ⟨zH110⟩, ⟨zH31⟩, ⟨zH32⟩⟩
 case round =>
  clear H'
  try clear c7
  try clear c7b0
  try clear c7b1
  try clear c7b2
  try clear c9
  try clear c10
  try clear c12
  try clear hcz106_0
  try clear hcz106_1
  try clear hcz106_2
  try clear hcz111_0
  try clear hcz115_0
  try clear hcz17_0
  try clear hcz21_0
  try clear hcz30_0
  try clear hcz30_1
  try clear hcz30_2
  try clear hcz33_0
  try clear hcz35_0
  try clear hcz35_1
  try clear hcz35_2
  try clear hcz38_0
  try clear hcz38_1
  try clear hcz38_2
  try clear hcz39_0
  try clear hcz39_1
  try clear hcz39_2
  try clear hcz40_0
  try clear hcz45_0
  try clear hcz49_0
  try clear hcz58_0
  try clear hcz58_1
  try clear hcz58_2
  try clear hcz61_0
  try clear hcz63_0
  try clear hcz63_1
  try clear hcz63_2
  try clear hcz70_0
  try clear hcz74_0
  try clear hcz83_0
  try clear hcz83_1
  try clear hcz83_2
  try clear hcz86_0
  try clear hcz88_0
  try clear hcz88_1
  try clear hcz88_2
  try clear hcz93_0
  try clear hcz97_0
  try clear hfz106_0
  try clear hfz106_1
  try clear hfz106_2
  try clear hfz111_0
  try clear hfz115_0
  try clear hfz17_0
  try clear hfz21_0
  try clear hfz30_0
  try clear hfz30_1
  try clear hfz30_2
  try clear hfz33_0
  try clear hfz35_0
  try clear hfz35_1
  try clear hfz35_2
  try clear hfz38_0
  try clear hfz38_1
  try clear hfz38_2
  try clear hfz39_0
  try clear hfz39_1
  try clear hfz39_2
  try clear hfz40_0
  try clear hfz45_0
  try clear hfz49_0
  try clear hfz58_0
  try clear hfz58_1
  try clear hfz58_2
  try clear hfz61_0
  try clear hfz63_0
  try clear hfz63_1
  try clear hfz63_2
  try clear hfz70_0
  try clear hfz74_0
  try clear hfz83_0
  try clear hfz83_1
  try clear hfz83_2
  try clear hfz86_0
  try clear hfz88_0
  try clear hfz88_1
  try clear hfz88_2
  try clear hfz93_0
  try clear hfz97_0
  obtain ⟨x35_1, x4000_1, x5000_1, x5001_1, x5002_1, u5000, rfl, HA, HK1, HO_5000, BK1, BK2, BK3, BK4, BK5, HK, HB⟩ := hrel
  cases gk with
  | zero => exact absurd HA.out (by simp [impl_BestSource_1.l0])
  | succ k1 =>
   have H := HA.out
   clear HA
   simp only [impl_BestSource_1.l0] at H
   by_cases c116 : x35_1 < (l2_0.length : Int)
   rotate_left
   ·rw [if_neg c116] at H
    have c116b0 := decide_eq_false c116
    clear c116
    simp only [Option.some.injEq, Prod.mk.injEq] at H
    obtain ⟨rfl, rfl, rfl, rfl⟩ := H
    go_wp2
    first | go_end0 | ((try simp only [Exit.inBlock, Exit.then]); refine bodyPost_ret (results_none rfl _ _ _) rfl ?_)
    exact ⟨_, zH111, by (with_reducible repeat (first | apply zj | apply zk | apply zl)); exact HO_5000.out, zG116, zG117, zH32, zH31⟩

   rw [if_pos c116] at H
   have c116b0 := decide_eq_true c116
   clear c116
   by_cases c117 : 0 ≤ x35_1
   rotate_left
   ·rw [if_neg c117] at H
    exact absurd H (by simp)
   rw [if_pos c117] at H
   have c117b0 := decide_eq_true c117
   clear c117
   by_cases c118 : x35_1 < (l2_0.length : Int)
   rotate_left
   ·rw [if_neg c118] at H
    exact absurd H (by simp)
   rw [if_pos c118] at H
   have c118b0 := decide_eq_true c118
   clear c118
   by_cases c119 : 0 ≤ (l0.length : Int)
   rotate_left
   ·rw [if_neg c119] at H
    exact absurd H (by simp)
   rw [if_pos c119] at H
   have c119b0 := decide_eq_true c119
   have c119b1 : decide (0 ≤ l0.length) = true := decide_eq_true (by omega)
   clear c119
   by_cases c120 : (l0.length : Int) < (l1_0.length : Int)
   rotate_left
   ·rw [if_neg c120] at H
    exact absurd H (by simp)
   rw [if_pos c120] at H
   have c120b0 := decide_eq_true c120
   have c120b1 : decide (l0.length < l1_0.length) = true := decide_eq_true (Int.ofNat_lt.mp c120)
   clear c120
   replace H := Option.bind_eq_some_iff.mp H
   obtain ⟨t256, A1210, H⟩ := H
   replace H : (if t256 = true then ((slices_Clone_int_int.f l0).bind fun t257 => ((some (([x35_1] : List Int) : List Int)).bind fun y260 => (if t257.length + y260.length < 17592186044416 then ((impl_BestSource_1.f k1 (t257 ++ y260) l1_0 l2_0 x4000_1 x5000_1 x5001_1 x5002_1).bind fun bt266 => (impl_BestSource_1.l0 k1 l0 (l2_0.length : Int) (wrap64 (x35_1 + 1)) l1_0 l2_0 bt266.1 bt266.2.1 bt266.2.2.1 bt266.2.2.2)) else (none)))) else (impl_BestSource_1.l0 k1 l0 (l2_0.length : Int) (wrap64 (x35_1 + 1)) l1_0 l2_0 x4000_1 x5000_1 x5001_1 x5002_1)) = some (r1, r2, r3, r4) := H
   have A121 := za A1210
   clear A1210
   by_cases c122 : t256 = true
   rotate_left
   ·replace c122 := Bool.eq_false_iff.mpr c122
    subst c122
    have H1 : (impl_BestSource_1.l0 k1 l0 (l2_0.length : Int) (wrap64 (x35_1 + 1)) l1_0 l2_0 x4000_1 x5000_1 x5001_1 x5002_1) = some (r1, r2, r3, r4) := by rw [if_neg (show ¬ (false = true) by decide)] at H; exact H
    clear H
    have H := H1
    clear H1
    have H' := za H
    clear H
    try go_wp2
    obtain ⟨n0_, n1_, n2_, n3_, n4_, n5_, n6_, n7_⟩ := zD8 (zl HO_5000.out) (zd BK1.out) (zd BK2.out) (zd BK3.out) (zd BK4.out) (zd BK5.out) (Kept.drew HK.out) (zg HB.out)
    clear HO_5000 BK1 BK2 BK3 BK4 BK5 HK HB
    have HO_5000 := n0_
    have BK1 := n1_
    have BK2 := n2_
    have BK3 := n3_
    have BK4 := n4_
    have BK5 := n5_
    have HK := n6_
    have HB := n7_
    clear n0_ n1_ n2_ n3_ n4_ n5_ n6_ n7_
    have p254 : 0 ≤ (x35_1 : Int) := zO
    have q254 : x35_1 < (l2_0.length : Int) := zO
    obtain ⟨ad254, A254_2, c254_2, e254, hx254_0, hx254_1, hx254_2, hl254_2, hi254_2⟩ := at_T58 (zah HR2_0.out HK.out) x35_1 p254 q254
    have hw254_2 := hx254_2
    have hw254_1 := hx254_1
    have hw254_0 := hx254_0
    cases e254
    obtain ⟨HR254_2, HC254_2⟩ := zD2 hi254_2 hl254_2
    clear hi254_2 hl254_2
    replace p254 := eq_true p254
    replace q254 := eq_true q254
    have p255 : 0 ≤ ((l0.length : Int) : Int) := zO
    have q255 : (l0.length : Int) < (l1_0.length : Int) := zO
    obtain ⟨ad255, e255, hx255_0, hx255_1⟩ := at_T124 (zah HR1_0.out HK.out) (l0.length : Int) p255 q255
    have hw255_1 := hx255_1
    (try simp only [Go.IntWalk.toNatUp] at hw255_1)
    have hw255_0 := hx255_0
    (try simp only [Go.IntWalk.toNatUp] at hw255_0)
    cases e255
    (try simp only [Go.IntWalk.toNatUp] at hx255_0)
    (try simp only [Go.IntWalk.toNatUp] at hx255_1)
    replace p255 := eq_true p255
    replace q255 := eq_true q255
    refine start_ (n := 10) (S := fun w' => w'.cell? ⟨gi2, 0, none⟩ = some (.slice (some ad254) l2_0.length c2_0) ∧ w'.cell? ⟨gi1, 0, none⟩ = some (.slice (some ad255) l1_0.length c1_0) ∧ w'.cell? (ad254.add ((x35_1).toNat * 3)) = some (.string ((rd_T58 l2_0 x35_1).f0)) ∧ w'.cell? ⟨(ad254.add ((x35_1).toNat * 3)).block, (ad254.add ((x35_1).toNat * 3)).off + 1, none⟩ = some (.int .i64 ((rd_T58 l2_0 x35_1).f1)) ∧ w'.cell? ⟨(ad254.add ((x35_1).toNat * 3)).block, (ad254.add ((x35_1).toNat * 3)).off + 2, none⟩ = some (.slice A254_2 ((rd_T58 l2_0 x35_1).f2).length c254_2) ∧ w'.cell? (ad255.add (l0.length * 2)) = some (.string ((rd_T124 l1_0 (l0.length : Int)).f0)) ∧ w'.cell? ⟨(ad255.add (l0.length * 2)).block, (ad255.add (l0.length * 2)).off + 1, none⟩ = some (.int .i64 ((rd_T124 l1_0 (l0.length : Int)).f1))) (ds := []) b7A1 zG128 rfl rfl ⟨(zi BK2.out 0).trans rfl, (zi BK1.out 0).trans rfl, hx254_0, hx254_1, hx254_2, hx255_0, hx255_1⟩ (fun hHeld => ?_); refine with_tabW impl_BestSource_1.tab7 impl_BestSource_1.bits7 (fun HT_ HW_ => ?_)
    generalize wr.drew = w138 at HO_5000 BK1 BK2 BK3 BK4 BK5 HK HB HR254_2 hx254_0 hx254_1 hx254_2 hx255_0 hx255_1 hHeld ⊢
    refine zP 1 39 b7A2 HT_ ?_
    refine zP 5 43 b7A3 HT_ ?_
    refine zP 6 44 b7A4 HT_ ?_
    refine zQ 0 38 b7A5 HT_ HW_ hHeld ?_
    refine zP 2 40 b7A6 HT_ ?_
    refine zQ 3 41 b7A7 HT_ HW_ hHeld ?_
    refine zQ 4 42 b7A8 HT_ HW_ hHeld ?_
    refine zP 7 45 b7A9 HT_ ?_
    refine zQ 8 46 b7A10 HT_ HW_ hHeld ?_
    refine one_ (i := 9) (N := some 47) b7A11 rfl rfl (one_of HT_.out zG128) zG129 (fun K hK => ?_)
    refine goes_ Try.func83 zG128 rfl #[.agg #[.string ((rd_T58 l2_0 x35_1).f0), .int .i64 ((rd_T58 l2_0 x35_1).f1), .slice A254_2 ((rd_T58 l2_0 x35_1).f2).length c254_2], .agg #[.string ((rd_T124 l1_0 (l0.length : Int)).f0), .int .i64 ((rd_T124 l1_0 (l0.length : Int)).f1)]] (by rfl) rfl rfl zG97 ?_
    with_reducible refine (impl_Source_gives.calls k1 ((rd_T58 l2_0 x35_1).f0) ((rd_T58 l2_0 x35_1).f1) _ _ ((rd_T58 l2_0 x35_1).f2) ((rd_T124 l1_0 (l0.length : Int)).f0) ((rd_T124 l1_0 (l0.length : Int)).f1) false _ ?side1 ?side2 A121.out).mono ?_
    (case side1 => exact zH16)
    (case side2 => exact HC254_2.out)
    rintro e w139 ⟨rfl, hb⟩
    have HS2_ := (hb.cell (zn _ _ (hHeld.2.2.1))).trans (hHeld.2.2.1)
    have HS3_ := (hb.cell (zn _ _ (hHeld.2.2.2.1))).trans (hHeld.2.2.2.1)
    have HS4_ := (hb.cell (zn _ _ (hHeld.2.2.2.2.1))).trans (hHeld.2.2.2.2.1)
    have HS5_ := (hb.cell (zn _ _ (hHeld.2.2.2.2.2.1))).trans (hHeld.2.2.2.2.2.1)
    have HS6_ := (hb.cell (zn _ _ (hHeld.2.2.2.2.2.2))).trans (hHeld.2.2.2.2.2.2)
    refine ⟨_, rfl, ?_⟩
    obtain ⟨n0_, n1_, n2_, n3_, n4_, n5_, n6_, n7_, n8_⟩ := zD9 (zv zK241 hb) (zp (g := gi1) (o := .cells #[.slice (some ad255) l1_0.length c1_0] 48 (0, 0)) zG114 hb) (zp (g := gi2) (o := .cells #[.slice (some ad254) l2_0.length c2_0] 47 (0, 0)) zG115 hb) (zp (g := gi3) (o := .cells #[.bool x4000_1] 4 (0, 0)) zG116 hb) (zp (g := gi4) (o := .cells #[u5000, .int .i64 x5001_1, .int .i64 x5002_1] 52 (0, 0)) zG117 hb) (zp (g := gi5) (o := .cells #[.func (.func 80) #[] #[.pointer (some ⟨gi1, 0, none⟩), .pointer (some ⟨gi2, 0, none⟩), .pointer (some ⟨gi3, 0, none⟩), .pointer (some ⟨gi4, 0, none⟩), .pointer (some ⟨gi5, 0, none⟩)]] 106 (0, 0)) zG118 hb) (zai zK206 hb) (Kept.below (S := (fun k_ => ((P4_0_ k_) ∨ k_ = gi3) ∨ k_ = gi4)) zG88 hb) (zu zG89 hb)
    clear HO_5000 BK1 BK2 BK3 BK4 BK5 HR254_2 HK HB
    have HO_5000 := n0_
    have BK1 := n1_
    have BK2 := n2_
    have BK3 := n3_
    have BK4 := n4_
    have BK5 := n5_
    have HR254_2 := n6_
    have HK := n7_
    have HB := n8_
    clear n0_ n1_ n2_ n3_ n4_ n5_ n6_ n7_ n8_
    (try clear hb)
    (try clear hb2)
    (try clear hk)
    (try clear hi)
    refine hK.out _ _ ⟨(zi BK2.out 0).trans rfl, (zi BK1.out 0).trans rfl, HS2_, HS3_, HS4_, HS5_, HS6_⟩ (fun hHeld => ?_)
    clear hK K
    refine norm_ (a' := ?_) ?_ ?_
    rotate_left
    ·show Act.put _ (some 47) _ = _
     simp only [Act.put, List.setIfInBounds_toArray, List.set_cons_zero, List.set_cons_succ, i64_w, i32_w]
     rfl
    refine done_ (done_of HT_.out zG128) ?_
    try go_wp2
    go_roundg k1
    case measure => have := HK1.out; omega
    case rel => exact ⟨(wrap64 (x35_1 + 1)), (x4000_1), (x5000_1), (x5001_1), (x5002_1), (u5000), zG127, H', ⟨zH124⟩, ⟨by (with_reducible repeat (first | apply zj | apply zk | apply zl)); exact HO_5000.out⟩, ⟨zH106⟩, ⟨zH107⟩, ⟨zH108⟩, ⟨zH109⟩, ⟨zH110⟩, ⟨zH31⟩, ⟨zH32⟩⟩
   subst c122
   have H1 : ((slices_Clone_int_int.f l0).bind fun t257 => ((some (([x35_1] : List Int) : List Int)).bind fun y260 => (if t257.length + y260.length < 17592186044416 then ((impl_BestSource_1.f k1 (t257 ++ y260) l1_0 l2_0 x4000_1 x5000_1 x5001_1 x5002_1).bind fun bt266 => (impl_BestSource_1.l0 k1 l0 (l2_0.length : Int) (wrap64 (x35_1 + 1)) l1_0 l2_0 bt266.1 bt266.2.1 bt266.2.2.1 bt266.2.2.2)) else (none)))) = some (r1, r2, r3, r4) := by rw [if_pos rfl] at H; exact H
   clear H
   have H := H1
   clear H1
   replace H := Option.bind_eq_some_iff.mp H
   obtain ⟨t257, A1230, H⟩ := H
   replace H : ((some (([x35_1] : List Int) : List Int)).bind fun y260 => (if t257.length + y260.length < 17592186044416 then ((impl_BestSource_1.f k1 (t257 ++ y260) l1_0 l2_0 x4000_1 x5000_1 x5001_1 x5002_1).bind fun bt266 => (impl_BestSource_1.l0 k1 l0 (l2_0.length : Int) (wrap64 (x35_1 + 1)) l1_0 l2_0 bt266.1 bt266.2.1 bt266.2.2.1 bt266.2.2.2)) else (none))) = some (r1, r2, r3, r4) := H
   have A123 := za A1230
   clear A1230
   obtain ⟨y260, hy260⟩ : ∃ y_ : List Int, y_ = (([x35_1] : List Int)) := ⟨_, rfl⟩
   replace H : (if t257.length + y260.length < 17592186044416 then ((impl_BestSource_1.f k1 (t257 ++ y260) l1_0 l2_0 x4000_1 x5000_1 x5001_1 x5002_1).bind fun bt266 => (impl_BestSource_1.l0 k1 l0 (l2_0.length : Int) (wrap64 (x35_1 + 1)) l1_0 l2_0 bt266.1 bt266.2.1 bt266.2.2.1 bt266.2.2.2)) else (none)) = some (r1, r2, r3, r4) := by first | (rw [hy260]; with_reducible exact H) | (have H2_ := (Option.bind_some _ _).symm.trans H; rw [hy260]; with_reducible exact H2_) | (have H2_ := (Option.bind_some _ _).symm.trans H; with_reducible exact H2_) | with_reducible exact H | (rw [hy260]; exact H) | exact H
   have Ny260 := za hy260
   clear hy260
   by_cases c124 : t257.length + y260.length < 17592186044416
   rotate_left
   ·rw [if_neg c124] at H
    exact absurd H (by simp)
   rw [if_pos c124] at H
   have LMc124 := za c124
   clear c124
   obtain ⟨y263, hy263⟩ : ∃ y_ : List Int, y_ = (t257 ++ y260) := ⟨_, rfl⟩
   replace H : ((impl_BestSource_1.f k1 y263 l1_0 l2_0 x4000_1 x5000_1 x5001_1 x5002_1).bind fun bt266 => (impl_BestSource_1.l0 k1 l0 (l2_0.length : Int) (wrap64 (x35_1 + 1)) l1_0 l2_0 bt266.1 bt266.2.1 bt266.2.2.1 bt266.2.2.2)) = some (r1, r2, r3, r4) := by first | (rw [hy263]; with_reducible exact H) | (have H2_ := (Option.bind_some _ _).symm.trans H; rw [hy263]; with_reducible exact H2_) | (have H2_ := (Option.bind_some _ _).symm.trans H; with_reducible exact H2_) | with_reducible exact H | (rw [hy263]; exact H) | exact H
   have Ny263 := za hy263
   clear hy263
   replace H := Option.bind_eq_some_iff.mp H
   obtain ⟨⟨t266, t267, t270, t271⟩, A1250, H⟩ := H
   replace H : (impl_BestSource_1.l0 k1 l0 (l2_0.length : Int) (wrap64 (x35_1 + 1)) l1_0 l2_0 t266 t267 t270 t271) = some (r1, r2, r3, r4) := H
   have A125 := za A1250
   clear A1250
   have H' := za H
   clear H
   try go_wp2
   obtain ⟨n0_, n1_, n2_, n3_, n4_, n5_, n6_, n7_⟩ := zD8 (zl HO_5000.out) (zd BK1.out) (zd BK2.out) (zd BK3.out) (zd BK4.out) (zd BK5.out) (Kept.drew HK.out) (zg HB.out)
   clear HO_5000 BK1 BK2 BK3 BK4 BK5 HK HB
   have HO_5000 := n0_
   have BK1 := n1_
   have BK2 := n2_
   have BK3 := n3_
   have BK4 := n4_
   have BK5 := n5_
   have HK := n6_
   have HB := n7_
   clear n0_ n1_ n2_ n3_ n4_ n5_ n6_ n7_
   have p254 : 0 ≤ (x35_1 : Int) := zO
   have q254 : x35_1 < (l2_0.length : Int) := zO
   obtain ⟨ad254, A254_2, c254_2, e254, hx254_0, hx254_1, hx254_2, hl254_2, hi254_2⟩ := at_T58 (zah HR2_0.out HK.out) x35_1 p254 q254
   have hw254_2 := hx254_2
   have hw254_1 := hx254_1
   have hw254_0 := hx254_0
   cases e254
   obtain ⟨HR254_2, HC254_2⟩ := zD2 hi254_2 hl254_2
   clear hi254_2 hl254_2
   replace p254 := eq_true p254
   replace q254 := eq_true q254
   have p255 : 0 ≤ ((l0.length : Int) : Int) := zO
   have q255 : (l0.length : Int) < (l1_0.length : Int) := zO
   obtain ⟨ad255, e255, hx255_0, hx255_1⟩ := at_T124 (zah HR1_0.out HK.out) (l0.length : Int) p255 q255
   have hw255_1 := hx255_1
   (try simp only [Go.IntWalk.toNatUp] at hw255_1)
   have hw255_0 := hx255_0
   (try simp only [Go.IntWalk.toNatUp] at hw255_0)
   cases e255
   (try simp only [Go.IntWalk.toNatUp] at hx255_0)
   (try simp only [Go.IntWalk.toNatUp] at hx255_1)
   replace p255 := eq_true p255
   replace q255 := eq_true q255
   refine start_ (n := 10) (S := fun w' => w'.cell? ⟨gi2, 0, none⟩ = some (.slice (some ad254) l2_0.length c2_0) ∧ w'.cell? ⟨gi1, 0, none⟩ = some (.slice (some ad255) l1_0.length c1_0) ∧ w'.cell? (ad254.add ((x35_1).toNat * 3)) = some (.string ((rd_T58 l2_0 x35_1).f0)) ∧ w'.cell? ⟨(ad254.add ((x35_1).toNat * 3)).block, (ad254.add ((x35_1).toNat * 3)).off + 1, none⟩ = some (.int .i64 ((rd_T58 l2_0 x35_1).f1)) ∧ w'.cell? ⟨(ad254.add ((x35_1).toNat * 3)).block, (ad254.add ((x35_1).toNat * 3)).off + 2, none⟩ = some (.slice A254_2 ((rd_T58 l2_0 x35_1).f2).length c254_2) ∧ w'.cell? (ad255.add (l0.length * 2)) = some (.string ((rd_T124 l1_0 (l0.length : Int)).f0)) ∧ w'.cell? ⟨(ad255.add (l0.length * 2)).block, (ad255.add (l0.length * 2)).off + 1, none⟩ = some (.int .i64 ((rd_T124 l1_0 (l0.length : Int)).f1))) (ds := []) b7A1 zG128 rfl rfl ⟨(zi BK2.out 0).trans rfl, (zi BK1.out 0).trans rfl, hx254_0, hx254_1, hx254_2, hx255_0, hx255_1⟩ (fun hHeld => ?_); refine with_tabW impl_BestSource_1.tab7 impl_BestSource_1.bits7 (fun HT_ HW_ => ?_)
   generalize wr.drew = w126 at HO_5000 BK1 BK2 BK3 BK4 BK5 HK HB HR254_2 hx254_0 hx254_1 hx254_2 hx255_0 hx255_1 hHeld ⊢
   refine zP 1 39 b7A2 HT_ ?_
   refine zP 5 43 b7A3 HT_ ?_
   refine zP 6 44 b7A4 HT_ ?_
   refine zQ 0 38 b7A5 HT_ HW_ hHeld ?_
   refine zP 2 40 b7A6 HT_ ?_
   refine zQ 3 41 b7A7 HT_ HW_ hHeld ?_
   refine zQ 4 42 b7A8 HT_ HW_ hHeld ?_
   refine zP 7 45 b7A9 HT_ ?_
   refine zQ 8 46 b7A10 HT_ HW_ hHeld ?_
   refine one_ (i := 9) (N := some 47) b7A11 rfl rfl (one_of HT_.out zG128) zG129 (fun K hK => ?_)
   refine goes_ Try.func83 zG128 rfl #[.agg #[.string ((rd_T58 l2_0 x35_1).f0), .int .i64 ((rd_T58 l2_0 x35_1).f1), .slice A254_2 ((rd_T58 l2_0 x35_1).f2).length c254_2], .agg #[.string ((rd_T124 l1_0 (l0.length : Int)).f0), .int .i64 ((rd_T124 l1_0 (l0.length : Int)).f1)]] (by rfl) rfl rfl zG97 ?_
   with_reducible refine (impl_Source_gives.calls k1 ((rd_T58 l2_0 x35_1).f0) ((rd_T58 l2_0 x35_1).f1) _ _ ((rd_T58 l2_0 x35_1).f2) ((rd_T124 l1_0 (l0.length : Int)).f0) ((rd_T124 l1_0 (l0.length : Int)).f1) true _ ?side1 ?side2 A121.out).mono ?_
   (case side1 => exact zH16)
   (case side2 => exact HC254_2.out)
   rintro e w127 ⟨rfl, hb⟩
   have HS2_ := (hb.cell (zn _ _ (hHeld.2.2.1))).trans (hHeld.2.2.1)
   have HS3_ := (hb.cell (zn _ _ (hHeld.2.2.2.1))).trans (hHeld.2.2.2.1)
   have HS4_ := (hb.cell (zn _ _ (hHeld.2.2.2.2.1))).trans (hHeld.2.2.2.2.1)
   have HS5_ := (hb.cell (zn _ _ (hHeld.2.2.2.2.2.1))).trans (hHeld.2.2.2.2.2.1)
   have HS6_ := (hb.cell (zn _ _ (hHeld.2.2.2.2.2.2))).trans (hHeld.2.2.2.2.2.2)
   refine ⟨_, rfl, ?_⟩
   obtain ⟨n0_, n1_, n2_, n3_, n4_, n5_, n6_, n7_, n8_⟩ := zD9 (zv zK241 hb) (zp (g := gi1) (o := .cells #[.slice (some ad255) l1_0.length c1_0] 48 (0, 0)) zG114 hb) (zp (g := gi2) (o := .cells #[.slice (some ad254) l2_0.length c2_0] 47 (0, 0)) zG115 hb) (zp (g := gi3) (o := .cells #[.bool x4000_1] 4 (0, 0)) zG116 hb) (zp (g := gi4) (o := .cells #[u5000, .int .i64 x5001_1, .int .i64 x5002_1] 52 (0, 0)) zG117 hb) (zp (g := gi5) (o := .cells #[.func (.func 80) #[] #[.pointer (some ⟨gi1, 0, none⟩), .pointer (some ⟨gi2, 0, none⟩), .pointer (some ⟨gi3, 0, none⟩), .pointer (some ⟨gi4, 0, none⟩), .pointer (some ⟨gi5, 0, none⟩)]] 106 (0, 0)) zG118 hb) (zai zK206 hb) (Kept.below (S := (fun k_ => ((P4_0_ k_) ∨ k_ = gi3) ∨ k_ = gi4)) zG88 hb) (zu zG89 hb)
   clear HO_5000 BK1 BK2 BK3 BK4 BK5 HR254_2 HK HB
   have HO_5000 := n0_
   have BK1 := n1_
   have BK2 := n2_
   have BK3 := n3_
   have BK4 := n4_
   have BK5 := n5_
   have HR254_2 := n6_
   have HK := n7_
   have HB := n8_
   clear n0_ n1_ n2_ n3_ n4_ n5_ n6_ n7_ n8_
   (try clear hb)
   (try clear hb2)
   (try clear hk)
   (try clear hi)
   refine hK.out _ _ ⟨(zi BK2.out 0).trans rfl, (zi BK1.out 0).trans rfl, HS2_, HS3_, HS4_, HS5_, HS6_⟩ (fun hHeld => ?_)
   clear hK K
   refine norm_ (a' := ?_) ?_ ?_
   rotate_left
   ·show Act.put _ (some 47) _ = _
    simp only [Act.put, List.setIfInBounds_toArray, List.set_cons_zero, List.set_cons_succ, i64_w, i32_w]
    rfl
   refine done_ (done_of HT_.out zG128) ?_
   try go_wp2
   obtain ⟨n0_, n1_, n2_, n3_, n4_, n5_, n6_, n7_, n8_⟩ := zD9 (zl HO_5000.out) (zd BK1.out) (zd BK2.out) (zd BK3.out) (zd BK4.out) (zd BK5.out) (zad HR254_2.out) (Kept.drew HK.out) (zg HB.out)
   clear HO_5000 BK1 BK2 BK3 BK4 BK5 HR254_2 HK HB
   have HO_5000 := n0_
   have BK1 := n1_
   have BK2 := n2_
   have BK3 := n3_
   have BK4 := n4_
   have BK5 := n5_
   have HR254_2 := n6_
   have HK := n7_
   have HB := n8_
   clear n0_ n1_ n2_ n3_ n4_ n5_ n6_ n7_ n8_
   refine start_ (n := 7) (S := fun w' => w'.cell? ⟨gi5, 0, none⟩ = some (.func (.func 80) #[] #[.pointer (some ⟨gi1, 0, none⟩), .pointer (some ⟨gi2, 0, none⟩), .pointer (some ⟨gi3, 0, none⟩), .pointer (some ⟨gi4, 0, none⟩), .pointer (some ⟨gi5, 0, none⟩)])) (ds := []) #[false, false, false, false, false, false, false] zG128 rfl rfl ((zi BK5.out 0).trans rfl) (fun hHeld => ?_)
   generalize w127.drew = w128 at HO_5000 BK1 BK2 BK3 BK4 BK5 HR254_2 HK HB hHeld ⊢
   refine pure_ (i := 1) (N := some 49) (v := ?_) (a' := ?_) #[false, true, false, false, false, false, false] rfl rfl zG128 (fun _ _ _ h => h) (Or.inl ⟨by rfl, ?_⟩) ?_ ?_
   rotate_left
   ·intro w'
    go_simp
    with_reducible rfl
   rotate_left
   ·simp only [Act.put, List.setIfInBounds_toArray, List.set_cons_zero, List.set_cons_succ, i64_w, i32_w]
    rfl
   refine pure_ (i := 3) (N := some 51) (v := ?_) (a' := ?_) #[false, true, false, true, false, false, false] rfl rfl zG128 (fun _ _ _ h => h) (Or.inl ⟨by rfl, ?_⟩) ?_ ?_
   rotate_left
   ·intro w'
    go_simp
    with_reducible rfl
   rotate_left
   ·simp only [Act.put, List.setIfInBounds_toArray, List.set_cons_zero, List.set_cons_succ, i64_w, i32_w]
    rfl
   refine take_ (i := 0) (N := some 48) (v := ?_) (a' := ?_) #[true, true, false, true, false, false, false] rfl rfl zG128 (fun _ _ _ h => h) (Or.inl ⟨by rfl, ?_⟩) hHeld ?_ ?_
   rotate_left
   ·intro w' s0
    go_simp
    with_reducible rfl
   rotate_left
   ·simp only [Act.put, List.setIfInBounds_toArray, List.set_cons_zero, List.set_cons_succ, i64_w, i32_w]
    rfl
   refine join_ (σ := Value × Value) 2 b7A0 (fun s_ => [(50, s_.1), (52, s_.2)]) (fun s_ w' => (w'.cell? ⟨gi5, 0, none⟩ = some (.func (.func 80) #[] #[.pointer (some ⟨gi1, 0, none⟩), .pointer (some ⟨gi2, 0, none⟩), .pointer (some ⟨gi3, 0, none⟩), .pointer (some ⟨gi4, 0, none⟩), .pointer (some ⟨gi5, 0, none⟩)])) ∧ (Kd.R (Kd.int .i64) 3 w' w0.heap.size (fun k_ => (P4_0_ k_ ∨ w.heap.size ≤ k_) ∧ some k_ ≠ (s_.2 : Value).ownBlock ∧ some k_ ≠ (u5000 : Value).ownBlock) s_.1 t257) ∧ (Kd.R (Kd.int .i64) 3 w' w0.heap.size (fun k_ => (P4_0_ k_ ∨ w.heap.size ≤ k_) ∧ some k_ ≠ (s_.1 : Value).ownBlock ∧ some k_ ≠ (u5000 : Value).ownBlock) s_.2 y260) ∧ (Kd.R (Kd.int .i64) 3 w' w0.heap.size (fun k_ => (P4_0_ k_ ∨ w.heap.size ≤ k_) ∧ some k_ ≠ (s_.1 : Value).ownBlock ∧ some k_ ≠ (s_.2 : Value).ownBlock) u5000 x5000_1) ∧ (w'.heap[gi1]? = some (.cells #[.slice (some ad255) l1_0.length c1_0] 48 (0, 0))) ∧ (w'.heap[gi2]? = some (.cells #[.slice (some ad254) l2_0.length c2_0] 47 (0, 0))) ∧ (w'.heap[gi3]? = some (.cells #[.bool x4000_1] 4 (0, 0))) ∧ (w'.heap[gi4]? = some (.cells #[u5000, .int .i64 x5001_1, .int .i64 x5002_1] 52 (0, 0))) ∧ (w'.heap[gi5]? = some (.cells #[.func (.func 80) #[] #[.pointer (some ⟨gi1, 0, none⟩), .pointer (some ⟨gi2, 0, none⟩), .pointer (some ⟨gi3, 0, none⟩), .pointer (some ⟨gi4, 0, none⟩), .pointer (some ⟨gi5, 0, none⟩)]] 106 (0, 0))) ∧ (Kept w w' (fun k_ => ((P4_0_ k_) ∨ k_ = gi3) ∨ k_ = gi4)) ∧ (Below w0.heap.size w0 w')) ?_ ?_
   rotate_left
   ·intro hCont
    refine two_ (i := 2) (j := 4) (Ni := some 50) (Nj := some 52) #[true, true, true, true, false, false, false] #[true, true, false, true, true, false, false] rfl rfl rfl rfl zG128 zG129 zG129 (fun K hK => ?_) (fun K hK => ?_)
    ·skip
     refine goes_ Try.func84 zG128 rfl #[.slice A0 l0.length c0] (by rfl) rfl rfl zG97 ?_
     with_reducible refine (slices_Clone_int_int.calls _ _ l0 t257 _ ?side1 ?side2 A123.out).mono ?_
     (case side1 => exact zah HR0.out zG88)
     (case side2 => exact zH128)
     rintro e w129 ⟨v258, rfl, ho0, hb⟩
     refine ⟨_, rfl, ?_⟩
     obtain ⟨n0_, n1_, n2_, n3_, n4_, n5_, n6_, n7_, n8_, n9_⟩ := zD10 (zal zK241 (zaj ho0) hb) (zam (zap (zbb (M := fun k_ => (P4_0_ k_ ∨ w.heap.size ≤ k_)) ho0 zG86 (fun k_ h_ => .inr h_)) (zaf zK241)) (zq zG89)) (zp (g := gi1) (o := .cells #[.slice (some ad255) l1_0.length c1_0] 48 (0, 0)) zG114 hb) (zp (g := gi2) (o := .cells #[.slice (some ad254) l2_0.length c2_0] 47 (0, 0)) zG115 hb) (zp (g := gi3) (o := .cells #[.bool x4000_1] 4 (0, 0)) zG116 hb) (zp (g := gi4) (o := .cells #[u5000, .int .i64 x5001_1, .int .i64 x5002_1] 52 (0, 0)) zG117 hb) (zp (g := gi5) (o := .cells #[.func (.func 80) #[] #[.pointer (some ⟨gi1, 0, none⟩), .pointer (some ⟨gi2, 0, none⟩), .pointer (some ⟨gi3, 0, none⟩), .pointer (some ⟨gi4, 0, none⟩), .pointer (some ⟨gi5, 0, none⟩)]] 106 (0, 0)) zG118 hb) (zai zK206 hb) (Kept.below (S := (fun k_ => ((P4_0_ k_) ∨ k_ = gi3) ∨ k_ = gi4)) zG88 hb) (zu zG89 hb)
     clear HO_5000 BK1 BK2 BK3 BK4 BK5 HR254_2 HK HB
     have HO_5000 := n0_
     have HO259 := n1_
     have BK1 := n2_
     have BK2 := n3_
     have BK3 := n4_
     have BK4 := n5_
     have BK5 := n6_
     have HR254_2 := n7_
     have HK := n8_
     have HB := n9_
     clear n0_ n1_ n2_ n3_ n4_ n5_ n6_ n7_ n8_ n9_
     (try clear hb)
     (try clear hb2)
     (try clear hk)
     (try clear hi)
     (try clear ho0)
     refine hK.out _ _ ((zi BK5.out 0).trans rfl) (fun hHeld => ?_)
     clear hK K
     refine norm_ (a' := ?_) ?_ ?_
     rotate_left
     ·show Act.put _ (some 50) _ = _
      simp only [Act.put, List.setIfInBounds_toArray, List.set_cons_zero, List.set_cons_succ, i64_w, i32_w]
      rfl
     refine one_ (i := 4) (N := some 52) b7A0 rfl rfl zG128 zG129 (fun K hK => ?_)
     refine zcb (Kd.int .i64) _ 3 ?hg (N := 52) ?hd (xs := ([x35_1] : List Int)) (inner := [.int .i64 x35_1]) (ok := fun _ => True) (okp := fun _ => True) ?hr ?hp (fun _ hk => hk) trivial (Below.refl _ _) (Nat.le_refl _) (by simp) ?_; (case hd => rfl); (case hg => rfl); (case hr => exact zH119); (case hp => exact (Reps.one (show Kd.M (Kd.int .i64) _ _ _ x35_1 [.int .i64 x35_1] from rfl) (Reps.none _ _)))
     intro v261 w130 ho131 hb hg_ hnew_
     clear hg_ hnew_
     (first | rw [← Ny260.out] at ho131 | (simp only [Int.reduceToNat] at ho131; rw [← Ny260.out] at ho131))
     obtain ⟨n0_, n1_, n2_, n3_, n4_, n5_, n6_, n7_, n8_, n9_, n10_⟩ := zD11 (zal zK241 (zaj ho131) hb) (zal (by (with_reducible repeat (first | apply zj | apply zk | apply zl)); exact HO259.out) (zaj ho131) hb) (zam (zap (zap (zbb (M := fun k_ => (P4_0_ k_ ∨ w.heap.size ≤ k_)) ho131 zG86 (fun k_ h_ => .inr h_)) (zaf zK241)) (zaf (by (with_reducible repeat (first | apply zj | apply zk | apply zl)); exact HO259.out))) (zq zG89)) (zp (g := gi1) (o := .cells #[.slice (some ad255) l1_0.length c1_0] 48 (0, 0)) zG114 hb) (zp (g := gi2) (o := .cells #[.slice (some ad254) l2_0.length c2_0] 47 (0, 0)) zG115 hb) (zp (g := gi3) (o := .cells #[.bool x4000_1] 4 (0, 0)) zG116 hb) (zp (g := gi4) (o := .cells #[u5000, .int .i64 x5001_1, .int .i64 x5002_1] 52 (0, 0)) zG117 hb) (zp (g := gi5) (o := .cells #[.func (.func 80) #[] #[.pointer (some ⟨gi1, 0, none⟩), .pointer (some ⟨gi2, 0, none⟩), .pointer (some ⟨gi3, 0, none⟩), .pointer (some ⟨gi4, 0, none⟩), .pointer (some ⟨gi5, 0, none⟩)]] 106 (0, 0)) zG118 hb) (zai zK206 hb) (Kept.below (S := (fun k_ => ((P4_0_ k_) ∨ k_ = gi3) ∨ k_ = gi4)) zG88 hb) (zu zG89 hb)
     clear HO_5000 HO259 BK1 BK2 BK3 BK4 BK5 HR254_2 HK HB
     have HO_5000 := n0_
     have HO259 := n1_
     have HO262 := n2_
     have BK1 := n3_
     have BK2 := n4_
     have BK3 := n5_
     have BK4 := n6_
     have BK5 := n7_
     have HR254_2 := n8_
     have HK := n9_
     have HB := n10_
     clear n0_ n1_ n2_ n3_ n4_ n5_ n6_ n7_ n8_ n9_ n10_
     clear hb ho131
     refine hK.out _ _ ((zi BK5.out 0).trans rfl) (fun hHeld => ?_)
     clear hK K
     refine norm_ (a' := ?_) ?_ ?_
     rotate_left
     ·show Act.put _ (some 52) _ = _
      simp only [Act.put, List.setIfInBounds_toArray, List.set_cons_zero, List.set_cons_succ, i64_w, i32_w]
      rfl
     exact norm_ zG113 (hCont (v258, v261) _ ⟨hHeld, zK224, zK225, (by (with_reducible repeat (first | apply zj | apply zk | apply zl)); exact zs HO_5000.out (fun _ hk => ⟨hk.1.1, ⟨hk.1.2, hk.2⟩⟩)), zG114, zG115, zG116, zG117, zG118, zG88, zG89⟩)
    ·skip
     refine zcb (Kd.int .i64) _ 3 ?hg (N := 52) ?hd (xs := ([x35_1] : List Int)) (inner := [.int .i64 x35_1]) (ok := fun _ => True) (okp := fun _ => True) ?hr ?hp (fun _ hk => hk) trivial (Below.refl _ _) (Nat.le_refl _) (by simp) ?_; (case hd => rfl); (case hg => rfl); (case hr => exact zH119); (case hp => exact (Reps.one (show Kd.M (Kd.int .i64) _ _ _ x35_1 [.int .i64 x35_1] from rfl) (Reps.none _ _)))
     intro v261 w129 ho130 hb hg_ hnew_
     clear hg_ hnew_
     (first | rw [← Ny260.out] at ho130 | (simp only [Int.reduceToNat] at ho130; rw [← Ny260.out] at ho130))
     obtain ⟨n0_, n1_, n2_, n3_, n4_, n5_, n6_, n7_, n8_, n9_⟩ := zD10 (zal zK241 (zaj ho130) hb) (zam (zap (zbb (M := fun k_ => (P4_0_ k_ ∨ w.heap.size ≤ k_)) ho130 zG86 (fun k_ h_ => .inr h_)) (zaf zK241)) (zq zG89)) (zp (g := gi1) (o := .cells #[.slice (some ad255) l1_0.length c1_0] 48 (0, 0)) zG114 hb) (zp (g := gi2) (o := .cells #[.slice (some ad254) l2_0.length c2_0] 47 (0, 0)) zG115 hb) (zp (g := gi3) (o := .cells #[.bool x4000_1] 4 (0, 0)) zG116 hb) (zp (g := gi4) (o := .cells #[u5000, .int .i64 x5001_1, .int .i64 x5002_1] 52 (0, 0)) zG117 hb) (zp (g := gi5) (o := .cells #[.func (.func 80) #[] #[.pointer (some ⟨gi1, 0, none⟩), .pointer (some ⟨gi2, 0, none⟩), .pointer (some ⟨gi3, 0, none⟩), .pointer (some ⟨gi4, 0, none⟩), .pointer (some ⟨gi5, 0, none⟩)]] 106 (0, 0)) zG118 hb) (zai zK206 hb) (Kept.below (S := (fun k_ => ((P4_0_ k_) ∨ k_ = gi3) ∨ k_ = gi4)) zG88 hb) (zu zG89 hb)
     clear HO_5000 BK1 BK2 BK3 BK4 BK5 HR254_2 HK HB
     have HO_5000 := n0_
     have HO262 := n1_
     have BK1 := n2_
     have BK2 := n3_
     have BK3 := n4_
     have BK4 := n5_
     have BK5 := n6_
     have HR254_2 := n7_
     have HK := n8_
     have HB := n9_
     clear n0_ n1_ n2_ n3_ n4_ n5_ n6_ n7_ n8_ n9_
     clear hb ho130
     refine hK.out _ _ ((zi BK5.out 0).trans rfl) (fun hHeld => ?_)
     clear hK K
     refine norm_ (a' := ?_) ?_ ?_
     rotate_left
     ·show Act.put _ (some 52) _ = _
      simp only [Act.put, List.setIfInBounds_toArray, List.set_cons_zero, List.set_cons_succ, i64_w, i32_w]
      rfl
     refine one_ (i := 2) (N := some 50) b7A0 rfl rfl zG128 zG129 (fun K hK => ?_)
     refine goes_ Try.func84 zG128 rfl #[.slice A0 l0.length c0] (by rfl) rfl rfl zG97 ?_
     with_reducible refine (slices_Clone_int_int.calls _ _ l0 t257 _ ?side1 ?side2 A123.out).mono ?_
     (case side1 => exact zah HR0.out zG88)
     (case side2 => exact zH128)
     rintro e w131 ⟨v258, rfl, ho0, hb⟩
     refine ⟨_, rfl, ?_⟩
     obtain ⟨n0_, n1_, n2_, n3_, n4_, n5_, n6_, n7_, n8_, n9_, n10_⟩ := zD11 (zal zK241 (zaj ho0) hb) (zal zK251 (zaj ho0) hb) (zam (zap (zap (zbb (M := fun k_ => (P4_0_ k_ ∨ w.heap.size ≤ k_)) ho0 zG86 (fun k_ h_ => .inr h_)) (zaf zK241)) (zaf zK251)) (zq zG89)) (zp (g := gi1) (o := .cells #[.slice (some ad255) l1_0.length c1_0] 48 (0, 0)) zG114 hb) (zp (g := gi2) (o := .cells #[.slice (some ad254) l2_0.length c2_0] 47 (0, 0)) zG115 hb) (zp (g := gi3) (o := .cells #[.bool x4000_1] 4 (0, 0)) zG116 hb) (zp (g := gi4) (o := .cells #[u5000, .int .i64 x5001_1, .int .i64 x5002_1] 52 (0, 0)) zG117 hb) (zp (g := gi5) (o := .cells #[.func (.func 80) #[] #[.pointer (some ⟨gi1, 0, none⟩), .pointer (some ⟨gi2, 0, none⟩), .pointer (some ⟨gi3, 0, none⟩), .pointer (some ⟨gi4, 0, none⟩), .pointer (some ⟨gi5, 0, none⟩)]] 106 (0, 0)) zG118 hb) (zai zK206 hb) (Kept.below (S := (fun k_ => ((P4_0_ k_) ∨ k_ = gi3) ∨ k_ = gi4)) zG88 hb) (zu zG89 hb)
     clear HO_5000 HO262 BK1 BK2 BK3 BK4 BK5 HR254_2 HK HB
     have HO_5000 := n0_
     have HO262 := n1_
     have HO259 := n2_
     have BK1 := n3_
     have BK2 := n4_
     have BK3 := n5_
     have BK4 := n6_
     have BK5 := n7_
     have HR254_2 := n8_
     have HK := n9_
     have HB := n10_
     clear n0_ n1_ n2_ n3_ n4_ n5_ n6_ n7_ n8_ n9_ n10_
     (try clear hb)
     (try clear hb2)
     (try clear hk)
     (try clear hi)
     (try clear ho0)
     refine hK.out _ _ ((zi BK5.out 0).trans rfl) (fun hHeld => ?_)
     clear hK K
     refine norm_ (a' := ?_) ?_ ?_
     rotate_left
     ·show Act.put _ (some 50) _ = _
      simp only [Act.put, List.setIfInBounds_toArray, List.set_cons_zero, List.set_cons_succ, i64_w, i32_w]
      rfl
     exact norm_ zG113 (hCont (v258, v261) _ ⟨hHeld, zK224, zK225, (by (with_reducible repeat (first | apply zj | apply zk | apply zl)); exact zs HO_5000.out (fun _ hk => ⟨hk.1.1, ⟨hk.2, hk.1.2⟩⟩)), zG114, zG115, zG116, zG117, zG118, zG88, zG89⟩)
   rintro ⟨v258, v261⟩ w132 ⟨hS_, h0_, h1_, h2_, h3_, h4_, h5_, h6_, h7_, h8_, h9_⟩
   have n0_ : Aside0 (Kd.R (Kd.int .i64) 3 w132 w0.heap.size (fun k_ => (P4_0_ k_ ∨ w.heap.size ≤ k_) ∧ some k_ ≠ (v261 : Value).ownBlock ∧ some k_ ≠ (u5000 : Value).ownBlock) v258 t257) := ⟨h0_⟩
   have n1_ : Aside0 (Kd.R (Kd.int .i64) 3 w132 w0.heap.size (fun k_ => (P4_0_ k_ ∨ w.heap.size ≤ k_) ∧ some k_ ≠ (v258 : Value).ownBlock ∧ some k_ ≠ (u5000 : Value).ownBlock) v261 y260) := ⟨h1_⟩
   have n2_ : Aside0 (Kd.R (Kd.int .i64) 3 w132 w0.heap.size (fun k_ => (P4_0_ k_ ∨ w.heap.size ≤ k_) ∧ some k_ ≠ (v258 : Value).ownBlock ∧ some k_ ≠ (v261 : Value).ownBlock) u5000 x5000_1) := ⟨h2_⟩
   have n3_ : Aside0 (w132.heap[gi1]? = some (.cells #[.slice (some ad255) l1_0.length c1_0] 48 (0, 0))) := ⟨h3_⟩
   have n4_ : Aside0 (w132.heap[gi2]? = some (.cells #[.slice (some ad254) l2_0.length c2_0] 47 (0, 0))) := ⟨h4_⟩
   have n5_ : Aside0 (w132.heap[gi3]? = some (.cells #[.bool x4000_1] 4 (0, 0))) := ⟨h5_⟩
   have n6_ : Aside0 (w132.heap[gi4]? = some (.cells #[u5000, .int .i64 x5001_1, .int .i64 x5002_1] 52 (0, 0))) := ⟨h6_⟩
   have n7_ : Aside0 (w132.heap[gi5]? = some (.cells #[.func (.func 80) #[] #[.pointer (some ⟨gi1, 0, none⟩), .pointer (some ⟨gi2, 0, none⟩), .pointer (some ⟨gi3, 0, none⟩), .pointer (some ⟨gi4, 0, none⟩), .pointer (some ⟨gi5, 0, none⟩)]] 106 (0, 0))) := ⟨h7_⟩
   have n8_ : Aside0 (Kept w w132 (fun k_ => ((P4_0_ k_) ∨ k_ = gi3) ∨ k_ = gi4)) := ⟨h8_⟩
   have n9_ : Aside0 (Below w0.heap.size w0 w132) := ⟨h9_⟩
   clear HO_5000
   clear BK1
   clear BK2
   clear BK3
   clear BK4
   clear BK5
   clear HR254_2
   clear HK
   clear HB
   clear h0_ h1_ h2_ h3_ h4_ h5_ h6_ h7_ h8_ h9_
   have HO259 := n0_
   have HO262 := n1_
   have HO_5000 := n2_
   have BK1 := n3_
   have BK2 := n4_
   have BK3 := n5_
   have BK4 := n6_
   have BK5 := n7_
   have HK := n8_
   have HB := n9_
   clear n0_ n1_ n2_ n3_ n4_ n5_ n6_ n7_ n8_ n9_
   have hHeld : w132.cell? ⟨gi5, 0, none⟩ = some (.func (.func 80) #[] #[.pointer (some ⟨gi1, 0, none⟩), .pointer (some ⟨gi2, 0, none⟩), .pointer (some ⟨gi3, 0, none⟩), .pointer (some ⟨gi4, 0, none⟩), .pointer (some ⟨gi5, 0, none⟩)]) := hS_
   obtain ⟨Ao134, co134, eo134⟩ := zan HO262.out
   (first | subst eo134 | (injection eo134 with f1_ f2_ f3_; have f4_ := f1_.symm; have f5_ := f3_.symm; clear f1_ f2_ f3_; subst f4_; subst f5_))
   refine norm_ (a' := ?_) ?_ ?_
   rotate_left
   ·simp only [putAll, Act.put, List.setIfInBounds_toArray, List.set_cons_zero, List.set_cons_succ]
    rfl
   refine one_ (i := 5) (N := some 53) #[true, true, true, true, true, true, false] rfl rfl zG128 zG129 (fun K hK => ?_)
   refine Kd.R_append_rows_step (Kd.int .i64) (w0 := w0) w0.heap.size (by rfl) (.tmp 50) (.tmp 52) 24 3 (.int .i64 0) 8 rfl Try.underlying24 info3 rfl zG129 (by omega) v258 t257 y260 _ _ _ (fun k_ => (P4_0_ k_ ∨ w.heap.size ≤ k_) ∧ some k_ ≠ (u5000 : Value).ownBlock ∧ some k_ ≠ (.slice Ao134 y260.length co134 : Value).ownBlock) (fun _ => False) rfl rfl ?aO ?aR (fun _ _ h => h) (fun _ h => h.elim) ?aF ?aB ?aS ?aL ?_
   (case aR => repeat (first | exact (zae HO262.out).2.2 | (with_reducible refine zab ?_ _) | (with_reducible refine zac ?_ _) | (with_reducible refine zad ?_)))
   (case aB => exact zG89)
   (case aF => exact (fun k_ hk => ⟨(.inr (Nat.le_trans zG86 hk)), Kd.fresh' (zaf zK241) k_ hk, Kd.fresh' (zaf zK251) k_ hk⟩))
   (case aO => exact (by (with_reducible repeat (first | apply zj | apply zk | apply zl)); exact zs HO259.out (fun _ hk => ⟨hk.1, ⟨hk.2.2, hk.2.1⟩⟩)))
   (case aS => exact (zq zG89))
   (case aL => have := LMc124.out; omega)
   intro v264 w133 ho hb hg hat
   rw [← Ny263.out] at ho
   obtain ⟨n0_, n1_, n2_, n3_, n4_, n5_, n6_, n7_, n8_, n9_⟩ := zD10 (Kd.R_after (ok := (fun k_ => (P4_0_ k_ ∨ w.heap.size ≤ k_) ∧ some k_ ≠ (.slice Ao134 y260.length co134 : Value).ownBlock)) (by (with_reducible repeat (first | apply zj | apply zk | apply zl)); exact zs HO_5000.out (fun _ hk => ⟨⟨hk.1, hk.2.2⟩, hk.2.1⟩)) hg hat) (zas (g := gi1) (o := .cells #[.slice (some ad255) l1_0.length c1_0] 48 (0, 0)) zG114 hg (zbg HO259.out BK1.out zG129)) (zas (g := gi2) (o := .cells #[.slice (some ad254) l2_0.length c2_0] 47 (0, 0)) zG115 hg (zbg HO259.out BK2.out zG129)) (zas (g := gi3) (o := .cells #[.bool x4000_1] 4 (0, 0)) zG116 hg (zbg HO259.out BK3.out zG129)) (zas (g := gi4) (o := .cells #[u5000, .int .i64 x5001_1, .int .i64 x5002_1] 52 (0, 0)) zG117 hg (zbg HO259.out BK4.out zG129)) (zas (g := gi5) (o := .cells #[.func (.func 80) #[] #[.pointer (some ⟨gi1, 0, none⟩), .pointer (some ⟨gi2, 0, none⟩), .pointer (some ⟨gi3, 0, none⟩), .pointer (some ⟨gi4, 0, none⟩), .pointer (some ⟨gi5, 0, none⟩)]] 106 (0, 0)) zG118 hg (zbg HO259.out BK5.out zG129)) (Kd.R_after (ok := (fun k_ => (P4_0_ k_ ∨ w.heap.size ≤ k_) ∧ some k_ ≠ (u5000 : Value).ownBlock)) (by (with_reducible repeat (first | apply zj | apply zk | apply zl)); exact zs HO262.out (fun _ hk => ⟨⟨hk.1, hk.2.2⟩, hk.2.1⟩)) hg hat) (hb) (Kept.of_grown (S := (fun k_ => ((P4_0_ k_) ∨ k_ = gi3) ∨ k_ = gi4)) hg zG88 (fun k_ e_ => (Or.imp_left (fun z_ => (Or.inl (Or.inl z_))) ((HO259.out.1 k_ e_).1)))) (ho)
   clear HO_5000 BK1 BK2 BK3 BK4 BK5 HO262 HB HK HO259
   have HO_5000 := n0_
   have BK1 := n1_
   have BK2 := n2_
   have BK3 := n3_
   have BK4 := n4_
   have BK5 := n5_
   have HO262 := n6_
   have HB := n7_
   have HK := n8_
   have HO265 := n9_
   clear n0_ n1_ n2_ n3_ n4_ n5_ n6_ n7_ n8_ n9_
   clear ho hb hg hat
   obtain ⟨Ao135, co135, eo135⟩ := zan HO265.out
   (first | subst eo135 | (injection eo135 with f1_ f2_ f3_; have f4_ := f1_.symm; have f5_ := f3_.symm; clear f1_ f2_ f3_; subst f4_; subst f5_))
   obtain ⟨Ao136, co136, eo136⟩ := zan HO_5000.out
   (first | subst eo136 | (injection eo136 with f1_ f2_ f3_; have f4_ := f1_.symm; have f5_ := f3_.symm; clear f1_ f2_ f3_; subst f4_; subst f5_))
   refine hK.out _ _ ((zi BK5.out 0).trans rfl) (fun hHeld => ?_)
   clear hK K
   refine norm_ (a' := ?_) ?_ ?_
   rotate_left
   ·show Act.put _ (some 53) _ = _
    simp only [Act.put, List.setIfInBounds_toArray, List.set_cons_zero, List.set_cons_succ, i64_w, i32_w]
    rfl
   refine one_ (i := 6) (N := some 54) #[true, true, true, true, true, true, true] rfl rfl zG128 zG129 (fun K hK => ?_)
   refine goesV_ (args0 := #[.slice Ao135 y263.length co135]) Try.func80 zG128 rfl #[.slice Ao135 y263.length co135, .pointer (some ⟨gi1, 0, none⟩), .pointer (some ⟨gi2, 0, none⟩), .pointer (some ⟨gi3, 0, none⟩), .pointer (some ⟨gi4, 0, none⟩), .pointer (some ⟨gi5, 0, none⟩)] (by rfl) rfl rfl (by rfl) zG97 (by rfl) ?_
   with_reducible refine (ih k1 (by have := HK1.out; omega) _ _ y263 gi1 (some ad255) c1_0 l1_0 gi2 (some ad254) c2_0 l2_0 gi3 x4000_1 gi4 (fun k_ => some k_ = (.slice Ao136 x5000_1.length co136 : Value).ownBlock) (.slice Ao136 x5000_1.length co136) x5000_1 x5001_1 x5002_1 gi5 t266 t267 t270 t271 w0 _ ?side1 ?side2 ?side3 ?side4 ?side5 ?side6 ?side7 ?side8 ?side9 ?side10 ?side11 ?side12 ?side13 ?side14 ?side15 ?side16 ?side17 ?side18 ?side19 ?side20 ?side21 ?side22 ?side23 ?side24 ?side25 A125.out).mono ?_
   (case side1 => repeat (first | (with_reducible first | exact HB.out | apply zh | apply zf | apply zg | refine ze ?_ GE1.out | refine ze ?_ GE2.out | refine ze ?_ GE3.out | refine ze ?_ GE4.out | refine ze ?_ GE5.out) | exact HB.out))
   (case side2 => exact zby ((zt (zt HO265.out BK3.out zG129) BK4.out zG129)) (fun k_ hk_ hs_ => Or.elim hs_ (fun hs_ => Or.elim hs_ (fun hs_ => (hk_.1.1.2.1) hs_) (fun e_ => (hk_.1.2) e_)) (fun e_ => (hk_.2) e_)))
   (case side3 => exact (zae HO265.out).2.1)
   (case side4 => exact zG114)
   (case side5 => exact zbw HR1_0.out zG88 (fun k_ hs_ => Or.elim hs_ (fun hs_ => Or.elim hs_ (fun hs_ => (fun e_ => (Or.imp_left (fun z_ => (Or.inl (Or.inl z_))) ((HO_5000.out.1 k_ e_.symm).1.1))) hs_) (fun e_ => .inl (Or.inl (Or.inr e_)))) (fun e_ => .inl (Or.inr e_))))
   (case side6 => exact HC1_0.out)
   (case side7 => exact zG115)
   (case side8 => exact NB1_2.out)
   (case side9 => exact zbw HR2_0.out zG88 (fun k_ hs_ => Or.elim hs_ (fun hs_ => Or.elim hs_ (fun hs_ => (fun e_ => (Or.imp_left (fun z_ => (Or.inl (Or.inl z_))) ((HO_5000.out.1 k_ e_.symm).1.1))) hs_) (fun e_ => .inl (Or.inl (Or.inr e_)))) (fun e_ => .inl (Or.inr e_))))
   (case side10 => exact HC2_0.out)
   (case side11 => exact zG116)
   (case side12 => exact GE3.out)
   (case side13 => exact NB1_3.out)
   (case side14 => exact NB2_3.out)
   (case side15 => exact zG117)
   (case side16 => exact GE4.out)
   (case side17 => exact NB1_4.out)
   (case side18 => exact NB2_4.out)
   (case side19 => exact NB3_4.out)
   (case side20 => exact Kd.R_tight rfl HO_5000.out)
   (case side21 => exact zG118)
   (case side22 => exact NB1_5.out)
   (case side23 => exact NB2_5.out)
   (case side24 => exact NB3_5.out)
   (case side25 => exact NB4_5.out)
   rintro e w137 ⟨v268, rfl, ho0, hz0, hz1, hb, hkp⟩
   refine ⟨_, rfl, ?_⟩
   obtain ⟨n0_, n1_, n2_, n3_, n4_, n5_, n6_, n7_, n8_, n9_⟩ := zD10 (zbn zG114 hkp (fun hs_ => Or.elim hs_ (fun hs_ => Or.elim hs_ (fun hs_ => (fun e_ => (zbg HO_5000.out BK1.out zG129) e_) hs_) (fun e_ => NB1_3.out e_)) (fun e_ => NB1_4.out e_))) (zbn zG115 hkp (fun hs_ => Or.elim hs_ (fun hs_ => Or.elim hs_ (fun hs_ => (fun e_ => (zbg HO_5000.out BK2.out zG129) e_) hs_) (fun e_ => NB2_3.out e_)) (fun e_ => NB2_4.out e_))) (hz0) (hz1) (zbn zG118 hkp (fun hs_ => Or.elim hs_ (fun hs_ => Or.elim hs_ (fun hs_ => (fun e_ => (zbg HO_5000.out BK5.out zG129) e_) hs_) (fun e_ => NB5_3.out e_)) (fun e_ => NB5_4.out e_))) (zs (ok' := fun k_ => (P4_0_ k_ ∨ w.heap.size ≤ k_) ∧ some k_ ≠ (.slice Ao135 y263.length co135 : Value).ownBlock ∧ some k_ ≠ (v268 : Value).ownBlock) (zcc ((zt (zt HO262.out BK3.out zG129) BK4.out zG129)) hkp (fun k_ hk_ hs_ => Or.elim hs_ (fun hs_ => Or.elim hs_ (fun hs_ => (hk_.1.1.1.2) hs_) (fun e_ => (hk_.1.2) e_)) (fun e_ => (hk_.2) e_))) (fun k_ hk_ => ⟨hk_.1.1.1.1.1, hk_.1.1.1.2, fun e_ => Or.elim (ho0.1 k_ e_.symm) (fun hs_ => hk_.2.1 (Or.inl (Or.inl hs_))) (fun hn_ => Nat.not_le.2 hk_.2.2 hn_)⟩)) (zs (ok' := fun k_ => (P4_0_ k_ ∨ w.heap.size ≤ k_) ∧ some k_ ≠ (.slice Ao134 y260.length co134 : Value).ownBlock ∧ some k_ ≠ (v268 : Value).ownBlock) (zcc ((zt (zt HO265.out BK3.out zG129) BK4.out zG129)) hkp (fun k_ hk_ hs_ => Or.elim hs_ (fun hs_ => Or.elim hs_ (fun hs_ => (hk_.1.1.2.1) hs_) (fun e_ => (hk_.1.2) e_)) (fun e_ => (hk_.2) e_))) (fun k_ hk_ => ⟨hk_.1.1.1.1, hk_.1.1.1.2.2, fun e_ => Or.elim (ho0.1 k_ e_.symm) (fun hs_ => hk_.2.1 (Or.inl (Or.inl hs_))) (fun hn_ => Nat.not_le.2 hk_.2.2 hn_)⟩)) (zs (ok' := fun k_ => (P4_0_ k_ ∨ w.heap.size ≤ k_) ∧ some k_ ≠ (.slice Ao134 y260.length co134 : Value).ownBlock ∧ some k_ ≠ (.slice Ao135 y263.length co135 : Value).ownBlock) ho0 (fun k_ hk_ => ⟨Or.elim hk_ (fun hs_ => (HO_5000.out.1 k_ (hs_).symm).1.1) (fun hn_ => (.inr (Nat.le_trans zG86 hn_))), Or.elim hk_ (fun hs_ => fun e_ => ((((zt (zt HO262.out BK3.out zG129) BK4.out zG129)).1 k_ e_.symm).1.1.1.2) hs_) (fun hn_ => (Kd.fresh' (zaf zK251) k_ hn_)), Or.elim hk_ (fun hs_ => fun e_ => ((((zt (zt HO265.out BK3.out zG129) BK4.out zG129)).1 k_ e_.symm).1.1.2.1) hs_) (fun hn_ => (Kd.fresh' (zaf (by (with_reducible repeat (first | apply zj | apply zk | apply zl)); exact HO265.out)) k_ hn_))⟩)) (Kept.then_ (S := (fun k_ => ((P4_0_ k_) ∨ k_ = gi3) ∨ k_ = gi4)) zG88 hkp (fun k_ hs_ => Or.elim hs_ (fun hs_ => Or.elim hs_ (fun hs_ => (fun e_ => (Or.imp_left (fun z_ => (Or.inl (Or.inl z_))) ((HO_5000.out.1 k_ e_.symm).1.1))) hs_) (fun e_ => .inl (Or.inl (Or.inr e_)))) (fun e_ => .inl (Or.inr e_)))) (hb)
   clear BK1 BK2 BK3 BK4 BK5 HO262 HO265 HK HB HO_5000
   have BK1 := n0_
   have BK2 := n1_
   have BK3 := n2_
   have BK4 := n3_
   have BK5 := n4_
   have HO262 := n5_
   have HO265 := n6_
   have HO269 := n7_
   have HK := n8_
   have HB := n9_
   clear n0_ n1_ n2_ n3_ n4_ n5_ n6_ n7_ n8_ n9_
   (try clear hb)
   (try clear hkp)
   (try clear ho0)
   (try clear hz0)
   (try clear hz1)
   refine hK.out _ _ ((zi BK5.out 0).trans rfl) (fun hHeld => ?_)
   clear hK K
   refine norm_ (a' := ?_) ?_ ?_
   rotate_left
   ·show Act.put _ (some 54) _ = _
    simp only [Act.put, List.setIfInBounds_toArray, List.set_cons_zero, List.set_cons_succ, i64_w, i32_w]
    rfl
   refine done_ zG128 ?_
   try go_wp2
   go_roundg k1
   case measure => have := HK1.out; omega
   case rel => exact ⟨(wrap64 (x35_1 + 1)), (t266), (t267), (t270), (t271), (v268), zG127, H', ⟨zH124⟩, ⟨by (with_reducible repeat (first | apply zj | apply zk | apply zl)); exact zs HO269.out (fun _ hk => hk.1)⟩, ⟨zH106⟩, ⟨zH107⟩, ⟨zH108⟩, ⟨zH109⟩, ⟨zH110⟩, ⟨zH31⟩, ⟨zH32⟩⟩
end Go.Proofs.Ytojncbpeeboooaa.X
