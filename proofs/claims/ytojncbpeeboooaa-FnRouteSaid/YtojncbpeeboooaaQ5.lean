-- squeezed
-- made by pp.py (wip/tools) out of the translation; Lean checks it
import Derived.Test.YtojncbpeeboooaaQ0
import Derived.Test.YtojncbpeeboooaaQ4
namespace Go.Proofs.Ytojncbpeeboooaa.Q
open Go.RowKit Go.Proofs.YtojncbpeeboooaaW.PrintWords Go.Proofs.YtojncbpeeboooaaW.PrintLast Go.Proofs.YtojncbpeeboooaaW.PrintMore
attribute [local go_sem] max2_int min2_int max_two min_two max_three min_three max_four min_four   -- for this text's walks alone
set_option linter.unusedVariables false
set_option linter.unusedSimpArgs false


/-! ### spec_l20Begin: function 68 -/
def spec_l20Begin.f (k : Nat) (l0 : List (S37)) (a1 : Int) : Option (Int) := if (l0.length : Int) > 4096 then (some 2) else ((spec_StopsOK.f k l0).bind fun t283 => (if t283 = true then ((spec_l01In.f a1 0 100000).bind fun t284 => (if t284 = true then (some 0) else (some 5))) else (some 1)))
theorem spec_l20Begin.mono : ∀ a0 a1 k, LeO (spec_l20Begin.f k a0 a1) (spec_l20Begin.f (k + 1) a0 a1) := by
 intro a0 a1 k
 unfold spec_l20Begin.f
 repeat' first
   | (with_reducible exact spec_StopsOK.mono _ _)
   | (with_reducible exact LeO.refl _)
   | (with_reducible exact LeO.none _)
   | (with_reducible refine LeO.ite ?_ ?_)
   | (with_reducible refine LeO.bind ?_ (fun _ => ?_))
   | exact spec_StopsOK.mono _ _
   | exact LeO.none _
   | refine LeO.ite ?_ ?_
   | refine LeO.bind ?_ (fun _ => ?_)
set_option maxHeartbeats 64000000 in
set_option maxRecDepth 100000 in
theorem spec_l20Begin.calls (k : Nat) (A0 : Option Addr) (c0 : Nat) (l0 : List (S37)) (a1 : Int) (r : Int) (w : World) (hr0 : Kd.C k37 w A0 l0.length l0) (hc0 : l0.length ≤ c0) (h : spec_l20Begin.f k l0 a1 = some r) :
  Calls Try.prog 68 #[.slice A0 l0.length c0, .int .i64 a1] w fun e w' => e = .returned (.int .i64 r) ∧ Below w.heap.size w w' := by
 obtain ⟨HR0, HC0, HB⟩ := zD3 hr0 hc0 (Below.refl w.heap.size w)
 clear hr0 hc0
 have H : (if (l0.length : Int) > 4096 then (some 2) else ((spec_StopsOK.f k l0).bind fun t283 => (if t283 = true then ((spec_l01In.f a1 0 100000).bind fun t284 => (if t284 = true then (some 0) else (some 5))) else (some 1)))) = some r := h
 clear h
 by_cases c3 : (l0.length : Int) > 4096
 ·rw [if_pos c3] at H
  have c3b0 : decide (4096 < (l0.length : Int)) = true := decide_eq_true c3
  have c3b1 : decide (4096 < l0.length) = true := decide_eq_true (by omega)
  clear c3
  obtain rfl := Option.some.inj H
  go_enter Try.func68, Try.ntmps68
  go_wp2
  go_ret
  exact zH36
 rw [if_neg c3] at H
 have c3b0 : decide (4096 < (l0.length : Int)) = false := decide_eq_false c3
 have c3b1 : decide (4096 < l0.length) = false := decide_eq_false (by omega)
 clear c3
 replace H := Option.bind_eq_some_iff.mp H
 obtain ⟨t283, A40, H⟩ := H
 replace H : (if t283 = true then ((spec_l01In.f a1 0 100000).bind fun t284 => (if t284 = true then (some 0) else (some 5))) else (some 1)) = some r := H
 have A4 := za A40
 clear A40
 by_cases c5 : t283 = true
 rotate_left
 ·replace c5 := Bool.eq_false_iff.mpr c5
  subst c5
  have H1 : (some 1) = some r := by rw [if_neg (show ¬ (false = true) by decide)] at H; exact H
  clear H
  have H := H1
  clear H1
  obtain rfl := Option.some.inj H
  go_enter Try.func68, Try.ntmps68
  go_wp2_with (first | ((with_reducible refine gate_callee (f := 121) rfl ?_); refine goesL_ (some 9) rfl rfl Try.func121 zG125 rfl #[.slice A0 l0.length c0] rfl zG87 ?_; (with_reducible refine (spec_StopsOK.calls k _ _ l0 false _ ?side1 ?side2 A4.out).mono ?_); (case side1 => exact zH68); (case side2 => exact zH110); rintro e w10 ⟨rfl, hb⟩; refine ⟨_, rfl, ?_⟩; replace HB := za (zv zG95 hb); (try clear hb)))
  go_ret
  exact zH36

 subst c5
 have H1 : ((spec_l01In.f a1 0 100000).bind fun t284 => (if t284 = true then (some 0) else (some 5))) = some r := by rw [if_pos rfl] at H; exact H
 clear H
 have H := H1
 clear H1
 replace H := Option.bind_eq_some_iff.mp H
 obtain ⟨t284, A60, H⟩ := H
 replace H : (if t284 = true then (some 0) else (some 5)) = some r := H
 have A6 := za A60
 clear A60
 by_cases c7 : t284 = true
 ·subst c7
  have H1 : (some 0) = some r := by rw [if_pos rfl] at H; exact H
  clear H
  have H := H1
  clear H1
  obtain rfl := Option.some.inj H
  go_enter Try.func68, Try.ntmps68
  go_wp2_with (first | ((with_reducible refine gate_callee (f := 121) rfl ?_); refine goesL_ (some 9) rfl rfl Try.func121 zG125 rfl #[.slice A0 l0.length c0] rfl zG87 ?_; (with_reducible refine (spec_StopsOK.calls k _ _ l0 true _ ?side1 ?side2 A4.out).mono ?_); (case side1 => exact zH68); (case side2 => exact zH110); rintro e w8 ⟨rfl, hb⟩; refine ⟨_, rfl, ?_⟩; replace HB := za (zv zG95 hb); (try clear hb)) | ((with_reducible refine gate_callee (f := 122) rfl ?_); refine goesL_ (some 12) rfl rfl Try.func122 zG125 rfl #[.int .i64 a1, .int .i64 0, .int .i64 100000] rfl zG87 ?_; (with_reducible refine (spec_l01In.calls a1 0 100000 true _ A6.out).mono ?_); rintro e w' ⟨rfl, ⟨nd, rfl⟩⟩; refine ⟨_, rfl, ?_⟩))
  go_ret
  exact zH36
 replace c7 := Bool.eq_false_iff.mpr c7
 subst c7
 have H1 : (some 5) = some r := by rw [if_neg (show ¬ (false = true) by decide)] at H; exact H
 clear H
 have H := H1
 clear H1
 obtain rfl := Option.some.inj H
 go_enter Try.func68, Try.ntmps68
 go_wp2_with (first | ((with_reducible refine gate_callee (f := 121) rfl ?_); refine goesL_ (some 9) rfl rfl Try.func121 zG125 rfl #[.slice A0 l0.length c0] rfl zG87 ?_; (with_reducible refine (spec_StopsOK.calls k _ _ l0 true _ ?side1 ?side2 A4.out).mono ?_); (case side1 => exact zH68); (case side2 => exact zH110); rintro e w9 ⟨rfl, hb⟩; refine ⟨_, rfl, ?_⟩; replace HB := za (zv zG95 hb); (try clear hb)) | ((with_reducible refine gate_callee (f := 122) rfl ?_); refine goesL_ (some 12) rfl rfl Try.func122 zG125 rfl #[.int .i64 a1, .int .i64 0, .int .i64 100000] rfl zG87 ?_; (with_reducible refine (spec_l01In.calls a1 0 100000 false _ A6.out).mono ?_); rintro e w' ⟨rfl, ⟨nd, rfl⟩⟩; refine ⟨_, rfl, ?_⟩))
 go_ret
 exact zH36
/-! ### spec_l20Far: function 145 -/
def spec_l20Far.f (a0_0 : Int) (a0_1 : Int) (a0_2 : Int) (a0_3 : Int) (a0_4 : Int) (a1_0 : Int) (a1_1 : Int) (a1_2 : Int) (a1_3 : Int) (a1_4 : Int) : Option (Int) := some (wrap64 ((mx (wrap64 (a0_0 - a1_0)) (wrap64 (a1_0 - a0_0))) + (mx (wrap64 (a0_1 - a1_1)) (wrap64 (a1_1 - a0_1)))))
set_option maxHeartbeats 64000000 in
set_option maxRecDepth 100000 in
theorem spec_l20Far.calls (a0_0 : Int) (a0_1 : Int) (a0_2 : Int) (a0_3 : Int) (a0_4 : Int) (a1_0 : Int) (a1_1 : Int) (a1_2 : Int) (a1_3 : Int) (a1_4 : Int) (r : Int) (w : World) (h : spec_l20Far.f a0_0 a0_1 a0_2 a0_3 a0_4 a1_0 a1_1 a1_2 a1_3 a1_4 = some r) :
  Calls Try.prog 145 #[.agg #[.int .i64 a0_0, .int .i64 a0_1, .int .i64 a0_2, .int .i64 a0_3, .int .i64 a0_4], .agg #[.int .i64 a1_0, .int .i64 a1_1, .int .i64 a1_2, .int .i64 a1_3, .int .i64 a1_4]] w fun e w' => e = .returned (.int .i64 r) ∧ Below w.heap.size w w' := by
 have hu37 := Try.underlying37
 have HB := za (Below.refl w.heap.size w)
 have H : (some (wrap64 ((mx (wrap64 (a0_0 - a1_0)) (wrap64 (a1_0 - a0_0))) + (mx (wrap64 (a0_1 - a1_1)) (wrap64 (a1_1 - a0_1)))))) = some r := h
 clear h
 obtain ⟨ji3, hji3⟩ : ∃ j_ : Int, (mx (wrap64 (a0_0 - a1_0)) (wrap64 (a1_0 - a0_0))) = j_ := ⟨_, rfl⟩
 replace H : (some (wrap64 ((ji3) + (mx (wrap64 (a0_1 - a1_1)) (wrap64 (a1_1 - a0_1)))))) = some r := by first | (rw [hji3] at H; exact H) | (simp only [hji3] at H ⊢; exact H)
 have hji3_ : (if (wrap64 (a0_0 - a1_0)) < (wrap64 (a1_0 - a0_0)) then (wrap64 (a1_0 - a0_0)) else (wrap64 (a0_0 - a1_0))) = ji3 := hji3
 obtain ⟨ji4, hji4⟩ : ∃ j_ : Int, (mx (wrap64 (a0_1 - a1_1)) (wrap64 (a1_1 - a0_1))) = j_ := ⟨_, rfl⟩
 replace H : (some (wrap64 ((ji3) + (ji4)))) = some r := by first | (rw [hji4] at H; exact H) | (simp only [hji4] at H ⊢; exact H)
 have hji4_ : (if (wrap64 (a0_1 - a1_1)) < (wrap64 (a1_1 - a0_1)) then (wrap64 (a1_1 - a0_1)) else (wrap64 (a0_1 - a1_1))) = ji4 := hji4
 obtain rfl := Option.some.inj H
 go_enter Try.func145, Try.ntmps145
 go_wp2_with (first | ((with_reducible refine gate_dst (N := 2) rfl ?_); refine box_event ?hg (N := 2) ?hd (cs := #[.int .i64 a0_0, .int .i64 a0_1, .int .i64 a0_2, .int .i64 a0_3, .int .i64 a0_4]) (t := 37) ?hr ?_; (case hd => rfl); (case hg => rfl); (case hr => exact zH103); intro gb285 hg w5 hbox hb; have n_ := zA_ (za (zv zG95 hb)) (zA_ (za (hbox)) (zA_ (zN1 w.heap.size hg (zt zG95)) (zN1 w.heap.size hg (zt zG95)))); clear HB; obtain ⟨HB, BK285, GW285, GE285⟩ := n_; clear hb hbox hg) | ((with_reducible refine gate_dst (N := 3) rfl ?_); refine box_event ?hg (N := 3) ?hd (cs := #[.int .i64 a1_0, .int .i64 a1_1, .int .i64 a1_2, .int .i64 a1_3, .int .i64 a1_4]) (t := 37) ?hr ?_; (case hd => rfl); (case hg => rfl); (case hr => exact zH103); intro gb286 hg w6 hbox hb; have n_ := zA_ (za (zs (g := gb285) (o := .cells #[.int .i64 a0_0, .int .i64 a0_1, .int .i64 a0_2, .int .i64 a0_3, .int .i64 a0_4] 37 (0, 0)) zK182 hb)) (zA_ (za (zv zK175 hb)) (zA_ (za (hbox)) (zA_ (zN1 w.heap.size hg (zt zK175)) (zA_ (zN1 w.heap.size hg (zt zK175)) (zN2 hg (zac (g := gb285) (o := .cells #[.int .i64 a0_0, .int .i64 a0_1, .int .i64 a0_2, .int .i64 a0_3, .int .i64 a0_4] 37 (0, 0)) zK182)))))); clear BK285 HB; obtain ⟨BK285, HB, BK286, GW286, GE286, NB285_286, NB286_285⟩ := n_; clear hb hbox hg; have hnb7 := NB285_286.out; have hnc7 := NB286_285.out; obtain ⟨hcz8_0, hcz8_1, hcz8_2, hcz8_3, hcz8_4, hfz8_0, hfz8_1, hfz8_2, hfz8_3, hfz8_4⟩ := zB5 BK285.out; obtain ⟨hcz9_0, hcz9_1, hcz9_2, hcz9_3, hcz9_4, hfz9_0, hfz9_1, hfz9_2, hfz9_3, hfz9_4⟩ := zB5 BK286.out))
 go_ret
 exact ⟨by first | rfl | (simp [errW_none, errW_some] <;> rfl) | (simp only [← hji3, ← hji4]; first | rfl | (simp [errW_none, errW_some] <;> rfl)) | (simp [*, errW_none, errW_some] <;> rfl), by repeat (first | (with_reducible first | exact HB.out | apply zm | apply zj | apply zk | refine zi ?_ GE285.out | refine zi ?_ GE286.out) | exact HB.out)⟩

/-! ### spec_l20Route: function 123 -/
def spec_l20Route.l0 : Nat → List (S37) → List Int → Int → Int → List Int → List Int → Int → Int → Int → Int → Int → Int → Int → Option (List Int × List Int × Int × Int × Bool)
 | 0, _, _, _, _, _, _, _, _, _, _, _, _, _ => none
 | k + 1, x0, x2, x10, x11, x289000, x289001, x289002, x289003, x290000, x290001, x290002, x290003, x290004 => if x11 < (x2.length : Int) then (if 0 ≤ x11 then (if 0 ≤ (rd x2 x11) then (if (rd x2 x11) < (x0.length : Int) then ((spec_l20Far.f x290000 x290001 x290002 x290003 x290004 ((rd_T37 x0 (rd x2 x11)).f0) ((rd_T37 x0 (rd x2 x11)).f1) ((rd_T37 x0 (rd x2 x11)).f2) ((rd_T37 x0 (rd x2 x11)).f3) ((rd_T37 x0 (rd x2 x11)).f4)).bind fun t293 => (if (wrap64 (x10 + t293)) > ((rd_T37 x0 (rd x2 x11)).f3) then (some (([] : List Int), ([] : List Int), 0, 0, false)) else (if x289000.length < 17592186044416 then (if x289001.length < 17592186044416 then (spec_l20Route.l0 k x0 x2 (wrap64 ((mx (wrap64 (x10 + t293)) ((rd_T37 x0 (rd x2 x11)).f2)) + ((rd_T37 x0 (rd x2 x11)).f4))) (wrap64 (x11 + 1)) (x289000 ++ [rd x2 x11]) (x289001 ++ [wrap64 (x10 + t293)]) (wrap64 (x289002 + (mx 0 (wrap64 (((rd_T37 x0 (rd x2 x11)).f2) - (wrap64 (x10 + t293))))))) x289003 ((rd_T37 x0 (rd x2 x11)).f0) ((rd_T37 x0 (rd x2 x11)).f1) ((rd_T37 x0 (rd x2 x11)).f2) ((rd_T37 x0 (rd x2 x11)).f3) ((rd_T37 x0 (rd x2 x11)).f4)) else (none)) else (none)))) else (none)) else (none)) else (none)) else ((spec_l20Far.f x290000 x290001 x290002 x290003 x290004 0 0 0 0 0).bind fun t301 => (some (x289000, x289001, x289002, wrap64 (x10 + t301), true)))
def spec_l20Route.f (k : Nat) (l0 : List (S37)) (a1 : Int) (l2 : List Int) : Option (List Int × List Int × Int × Int × Bool) := spec_l20Route.l0 k l0 l2 a1 0 ([] : List Int) ([] : List Int) 0 0 0 0 0 0 0
theorem spec_l20Route.mono_l : ∀ k, (∀ y0 y1 y2 y3 y4 y5 y6 y7 y8 y9 y10 y11 y12, LeO (spec_l20Route.l0 k y0 y1 y2 y3 y4 y5 y6 y7 y8 y9 y10 y11 y12) (spec_l20Route.l0 (k + 1) y0 y1 y2 y3 y4 y5 y6 y7 y8 y9 y10 y11 y12))
 | 0 => fun _ _ _ _ _ _ _ _ _ _ _ _ _ r h => by simp [spec_l20Route.l0] at h
 | k + 1 => by
  have ih0 := spec_l20Route.mono_l k
  ·intro y0 y1 y2 y3 y4 y5 y6 y7 y8 y9 y10 y11 y12
   unfold spec_l20Route.l0
   repeat' first
   | (with_reducible exact ih0 _ _ _ _ _ _ _ _ _ _ _ _ _)
   | (with_reducible exact LeO.refl _)
   | (with_reducible exact LeO.none _)
   | (with_reducible refine LeO.ite ?_ ?_)
   | (with_reducible refine LeO.bind ?_ (fun _ => ?_))
   | exact ih0 _ _ _ _ _ _ _ _ _ _ _ _ _
   | exact LeO.none _
   | refine LeO.ite ?_ ?_
   | refine LeO.bind ?_ (fun _ => ?_)
theorem spec_l20Route.mono : ∀ a0 a1 a2 k, LeO (spec_l20Route.f k a0 a1 a2) (spec_l20Route.f (k + 1) a0 a1 a2) := by
 intro a0 a1 a2 k
 have ih0 := spec_l20Route.mono_l k
 unfold spec_l20Route.f
 repeat' first
   | (with_reducible exact ih0 _ _ _ _ _ _ _ _ _ _ _ _ _)
   | (with_reducible exact LeO.refl _)
   | (with_reducible exact LeO.none _)
   | (with_reducible refine LeO.ite ?_ ?_)
   | (with_reducible refine LeO.bind ?_ (fun _ => ?_))
   | exact ih0 _ _ _ _ _ _ _ _ _ _ _ _ _
   | exact LeO.none _
   | refine LeO.ite ?_ ?_
   | refine LeO.bind ?_ (fun _ => ?_)
def spec_l20Route.T11 : Bool × List (List Nat × List Nat) := (true, [([], []), ([0], [0]), ([], []), ([], []), ([2, 3], [2, 3]), ([4], [4]), ([5], [5]), ([1, 6], [1, 6]), ([0, 1, 2, 3, 4, 5, 6, 7], []), ([8, 7, 7, 0, 1, 2, 3, 4, 5, 6, 7], [7, 8])])
def spec_l20Route.B11 : List Nat := [0, 1, 0, 0, 12, 28, 60, 127, 255, 511]
theorem spec_l20Route.tab11 : rtab .any (opsOf Try.f123 11) = spec_l20Route.T11 := by kernel_rfl
theorem spec_l20Route.bits11 : waitsOk spec_l20Route.T11.2 spec_l20Route.B11 = true := by kernel_rfl
set_option maxHeartbeats 64000000 in
set_option maxRecDepth 100000 in
theorem spec_l20Route.calls (k : Nat) (A0 : Option Addr) (c0 : Nat) (l0 : List (S37)) (a1 : Int) (A2 : Option Addr) (c2 : Nat) (l2 : List Int) (r1 : List Int) (r2 : List Int) (r3 : Int) (r4 : Int) (r5 : Bool) (w : World) (hr0 : Kd.C k37 w A0 l0.length l0) (hc0 : l0.length ≤ c0) (hr2 : Kd.C (Kd.int .i64) w A2 l2.length l2) (hc2 : l2.length ≤ c2) (h : spec_l20Route.f k l0 a1 l2 = some (r1, r2, r3, r4, r5)) :
  Calls Try.prog 123 #[.slice A0 l0.length c0, .int .i64 a1, .slice A2 l2.length c2] w fun e w' => ∃ v0_ v1_ : Value, e = .returned (.tuple #[.agg #[v0_, v1_, .int .i64 r3, .int .i64 r4], .bool r5]) ∧ Kd.R (Kd.int .i64) 3 w' w.heap.size (fun k_ => some k_ ≠ (v1_ : Value).ownBlock) v0_ r1 ∧ Kd.R (Kd.int .i64) 3 w' w.heap.size (fun k_ => some k_ ≠ (v0_ : Value).ownBlock) v1_ r2 ∧ Below w.heap.size w w' := by
 have hu28 := Try.underlying28
 have hu37 := Try.underlying37
 obtain ⟨HR0, HC0, HR2, HC2, HB⟩ := zD5 hr0 hc0 hr2 hc2 (Below.refl w.heap.size w)
 clear hr0 hc0 hr2 hc2
 have H : (spec_l20Route.l0 k l0 l2 a1 0 ([] : List Int) ([] : List Int) 0 0 0 0 0 0 0) = some (r1, r2, r3, r4, r5) := h
 clear h
 have H' := za H
 clear H
 go_enter Try.func123, Try.ntmps123
 go_wp2_with (first | ((with_reducible refine gate_dst (N := 6) rfl ?_); refine box_event ?hg (N := 6) ?hd (cs := #[.slice none 0 0, .slice none 0 0, .int .i64 0, .int .i64 0]) (t := 28) ?hr ?_; (case hd => rfl); (case hg => rfl); (case hr => exact zH103); intro gb287 hg w4 hbox hb; have n_ := zA_ (za (zv zG95 hb)) (zA_ (za (hbox)) (zA_ (zN1 w.heap.size hg (zt zG95)) (zN1 w.heap.size hg (zt zG95)))); clear HB; obtain ⟨HB, BK287, GW287, GE287⟩ := n_; clear hb hbox hg) | ((with_reducible refine gate_dst (N := 8) rfl ?_); refine box_event ?hg (N := 8) ?hd (cs := #[.slice none 0 0, .slice none 0 0, .int .i64 0, .int .i64 0]) (t := 28) ?hr ?_; (case hd => rfl); (case hg => rfl); (case hr => exact zH103); intro gb288 hg w5 hbox hb; have n_ := zA_ (za (zs (g := gb287) (o := .cells #[.slice none 0 0, .slice none 0 0, .int .i64 0, .int .i64 0] 28 (0, 0)) zK183 hb)) (zA_ (za (zv zK176 hb)) (zA_ (za (hbox)) (zA_ (zN1 w.heap.size hg (zt zK176)) (zA_ (zN1 w.heap.size hg (zt zK176)) (zN2 hg (zac (g := gb287) (o := .cells #[.slice none 0 0, .slice none 0 0, .int .i64 0, .int .i64 0] 28 (0, 0)) zK183)))))); clear BK287 HB; obtain ⟨BK287, HB, BK288, GW288, GE288, NB287_288, NB288_287⟩ := n_; clear hb hbox hg; have hnb6 := NB288_287.out; have hnc6 := NB287_288.out; obtain ⟨hcz7_0, hcz7_1, hcz7_2, hcz7_3, hfz7_0, hfz7_1, hfz7_2, hfz7_3⟩ := zB4 BK288.out) | ((with_reducible refine gate_dst (N := 9) rfl ?_); refine box_event ?hg (N := 9) ?hd (cs := #[.int .i64 0, .int .i64 0, .int .i64 0, .int .i64 0, .int .i64 0]) (t := 37) ?hr ?_; (case hd => rfl); (case hg => rfl); (case hr => exact zH103); intro gb289 hg w8 hbox hb; have n_ := zA_ (za (zs (g := gb287) (o := .cells #[.slice none 0 0, .slice none 0 0, .int .i64 0, .int .i64 0] 28 (0, 0)) zK145 hb)) (zA_ (za (zs (g := gb288) (o := .cells #[.slice none 0 0, .slice none 0 0, .int .i64 0, .int .i64 0] 28 (0, 0)) zK117 hb)) (zA_ (za (zv zK167 hb)) (zA_ (za (hbox)) (zA_ (zN1 w.heap.size hg (zt zK167)) (zA_ (zN1 w.heap.size hg (zt zK167)) (zN3 hg (zac (g := gb287) (o := .cells #[.slice none 0 0, .slice none 0 0, .int .i64 0, .int .i64 0] 28 (0, 0)) zK145) (zN2 hg (zac (g := gb288) (o := .cells #[.slice none 0 0, .slice none 0 0, .int .i64 0, .int .i64 0] 28 (0, 0)) zK117)))))))); clear BK287 BK288 HB; obtain ⟨BK287, BK288, HB, BK289, GW289, GE289, NB287_289, NB289_287, NB288_289, NB289_288⟩ := n_; clear hb hbox hg; have hnb9 := NB289_287.out; have hnc9 := NB287_289.out; have hnb10 := NB289_288.out; have hnc10 := NB288_289.out; obtain ⟨hcz11_0, hcz11_1, hcz11_2, hcz11_3, hcz11_4, hfz11_0, hfz11_1, hfz11_2, hfz11_3, hfz11_4⟩ := zB5 BK289.out))
 go_loopg [10, 11] k (fun kq v10 v11 w' => ∃ (x10_1 : Int) (x11_1 : Int) (x288002_1 : Int) (x288003_1 : Int) (x289000_1 : List Int) (x289001_1 : List Int) (x289002_1 : Int) (x290000_1 : Int) (x290001_1 : Int) (x290002_1 : Int) (x290003_1 : Int) (x290004_1 : Int) (u289000 : Value) (u289001 : Value), v10 = .int .i64 x10_1 ∧ v11 = .int .i64 x11_1 ∧ Aside0 (spec_l20Route.l0 kq l0 l2 x10_1 x11_1 x289000_1 x289001_1 x289002_1 0 x290000_1 x290001_1 x290002_1 x290003_1 x290004_1 = some (r1, r2, r3, r4, r5)) ∧ Aside0 (kq ≤ k) ∧ Aside0 (Kd.R (Kd.int .i64) 3 w' w.heap.size (fun k_ => some k_ ≠ (u289001 : Value).ownBlock) u289000 x289000_1) ∧ Aside0 (Kd.R (Kd.int .i64) 3 w' w.heap.size (fun k_ => some k_ ≠ (u289000 : Value).ownBlock) u289001 x289001_1) ∧ Aside0 (w'.heap[gb287]? = some (.cells #[(.slice none 0 0), (.slice none 0 0), .int .i64 x288002_1, .int .i64 x288003_1] 28 (0, 0))) ∧ Aside0 (w'.heap[gb288]? = some (.cells #[u289000, u289001, .int .i64 x289002_1, .int .i64 0] 28 (0, 0))) ∧ Aside0 (w'.heap[gb289]? = some (.cells #[.int .i64 x290000_1, .int .i64 x290001_1, .int .i64 x290002_1, .int .i64 x290003_1, .int .i64 x290004_1] 37 (0, 0))) ∧ Aside0 (Below w.heap.size w w'))
 case atStart => exact ⟨(a1), (0), (0), (0), (([] : List Int)), (([] : List Int)), (0), (0), (0), (0), (0), (0), (.slice none 0 0), (.slice none 0 0), zG124, zG124, H', ⟨Nat.le_refl _⟩, ⟨zH73⟩, ⟨zH73⟩, ⟨by (with_reducible repeat (first | refine zc ?_ _ | refine ze ?_ | refine zb ?_ _)); refine zr ?_ NB287_289.out _; (with_reducible repeat (first | refine zc ?_ _ | refine ze ?_ | refine zb ?_ _)); refine zr ?_ NB287_289.out _; (with_reducible repeat (first | refine zc ?_ _ | refine ze ?_ | refine zb ?_ _)); refine zr ?_ NB287_289.out _; (with_reducible repeat (first | refine zc ?_ _ | refine ze ?_ | refine zb ?_ _)); refine zr ?_ NB287_289.out _; (with_reducible repeat (first | refine zc ?_ _ | refine ze ?_ | refine zb ?_ _)); refine zr ?_ NB287_289.out _; (with_reducible repeat (first | refine zc ?_ _ | refine ze ?_ | refine zb ?_ _)); exact BK287.out⟩, ⟨by (with_reducible repeat (first | refine zc ?_ _ | refine ze ?_ | refine zb ?_ _)); refine zr ?_ NB288_289.out _; (with_reducible repeat (first | refine zc ?_ _ | refine ze ?_ | refine zb ?_ _)); refine zr ?_ NB288_289.out _; (with_reducible repeat (first | refine zc ?_ _ | refine ze ?_ | refine zb ?_ _)); refine zr ?_ NB288_289.out _; (with_reducible repeat (first | refine zc ?_ _ | refine ze ?_ | refine zb ?_ _)); refine zr ?_ NB288_289.out _; (with_reducible repeat (first | refine zc ?_ _ | refine ze ?_ | refine zb ?_ _)); refine zr ?_ NB288_289.out _; (with_reducible repeat (first | refine zc ?_ _ | refine ze ?_ | refine zb ?_ _)); exact BK288.out⟩, ⟨by (with_reducible repeat (first | refine zc ?_ _ | refine ze ?_ | refine zb ?_ _)); refine zu (cs := #[.int .i64 0, .int .i64 0, .int .i64 0, .int .i64 0, .int .i64 0]) ?_ 4 _ rfl; (with_reducible repeat (first | refine zc ?_ _ | refine ze ?_ | refine zb ?_ _)); refine zu (cs := #[.int .i64 0, .int .i64 0, .int .i64 0, .int .i64 0, .int .i64 0]) ?_ 3 _ rfl; (with_reducible repeat (first | refine zc ?_ _ | refine ze ?_ | refine zb ?_ _)); refine zu (cs := #[.int .i64 0, .int .i64 0, .int .i64 0, .int .i64 0, .int .i64 0]) ?_ 2 _ rfl; (with_reducible repeat (first | refine zc ?_ _ | refine ze ?_ | refine zb ?_ _)); refine zu (cs := #[.int .i64 0, .int .i64 0, .int .i64 0, .int .i64 0, .int .i64 0]) ?_ 1 _ rfl; (with_reducible repeat (first | refine zc ?_ _ | refine ze ?_ | refine zb ?_ _)); refine zu (cs := #[.int .i64 0, .int .i64 0, .int .i64 0, .int .i64 0, .int .i64 0]) ?_ 0 _ rfl; (with_reducible repeat (first | refine zc ?_ _ | refine ze ?_ | refine zb ?_ _)); exact BK289.out⟩, ⟨zH44⟩⟩
 case round =>
  clear H'
  try clear c2
  try clear hcz11_0
  try clear hcz11_1
  try clear hcz11_2
  try clear hcz11_3
  try clear hcz11_4
  try clear hcz7_0
  try clear hcz7_1
  try clear hcz7_2
  try clear hcz7_3
  try clear hfz11_0
  try clear hfz11_1
  try clear hfz11_2
  try clear hfz11_3
  try clear hfz11_4
  try clear hfz7_0
  try clear hfz7_1
  try clear hfz7_2
  try clear hfz7_3
  obtain ⟨x10_1, x11_1, x288002_1, x288003_1, x289000_1, x289001_1, x289002_1, x290000_1, x290001_1, x290002_1, x290003_1, x290004_1, u289000, u289001, rfl, rfl, HA, HK1, HO_289000, HO_289001, BK287, BK288, BK289, HB⟩ := hrel
  cases gk with
  | zero => exact absurd HA.out (by simp [spec_l20Route.l0])
  | succ k1 =>
   have H := HA.out
   clear HA
   simp only [spec_l20Route.l0] at H
   by_cases c12 : x11_1 < (l2.length : Int)
   rotate_left
   ·rw [if_neg c12] at H
    have c12b0 := decide_eq_false c12
    clear c12
    replace H := Option.bind_eq_some_iff.mp H
    obtain ⟨t301, A550, H⟩ := H
    replace H : (some (x289000_1, x289001_1, x289002_1, wrap64 (x10_1 + t301), true)) = some (r1, r2, r3, r4, r5) := H
    have A55 := za A550
    clear A550
    simp only [Option.some.injEq, Prod.mk.injEq] at H
    obtain ⟨rfl, rfl, rfl, rfl, rfl⟩ := H
    have hnb56 := NB289_287.out
    have hnc56 := NB287_289.out
    have hnb57 := NB289_288.out
    have hnc57 := NB288_289.out
    obtain ⟨hcz58_0, hcz58_1, hcz58_2, hcz58_3, hcz58_4, hfz58_0, hfz58_1, hfz58_2, hfz58_3, hfz58_4⟩ := zB5 BK289.out
    go_wp2_with (first | ((with_reducible refine gate_callee (f := 145) rfl ?_); refine goesL_ (some 74) rfl rfl Try.func145 zG125 rfl #[.agg #[.int .i64 x290000_1, .int .i64 x290001_1, .int .i64 x290002_1, .int .i64 x290003_1, .int .i64 x290004_1], .agg #[.int .i64 0, .int .i64 0, .int .i64 0, .int .i64 0, .int .i64 0]] rfl zG87 ?_; (with_reducible refine (spec_l20Far.calls x290000_1 x290001_1 x290002_1 x290003_1 x290004_1 0 0 0 0 0 t301 _ A55.out).mono ?_); rintro e w59 ⟨rfl, hb⟩; refine ⟨_, rfl, ?_⟩; have n_ := zA_ (za (zp zK193 hb)) (zA_ (za (zp zK194 hb)) (zA_ (za (zs (g := gb287) (o := .cells #[.slice none 0 0, .slice none 0 0, .int .i64 x288002_1, .int .i64 x288003_1] 28 (0, 0)) zK183 hb)) (zA_ (za (zs (g := gb288) (o := .cells #[u289000, u289001, .int .i64 x289002_1, .int .i64 0] 28 (0, 0)) zK184 hb)) (zA_ (za (zs (g := gb289) (o := .cells #[.int .i64 x290000_1, .int .i64 x290001_1, .int .i64 x290002_1, .int .i64 x290003_1, .int .i64 x290004_1] 37 (0, 0)) zK185 hb)) (za (zv zK163 hb)))))); clear HO_289000 HO_289001 BK287 BK288 BK289 HB; obtain ⟨HO_289000, HO_289001, BK287, BK288, BK289, HB⟩ := n_; (try clear hb); have hnb60 := NB288_287.out; have hnc60 := NB287_288.out; obtain ⟨hcz61_0, hcz61_1, hcz61_2, hcz61_3, hfz61_0, hfz61_1, hfz61_2, hfz61_3⟩ := zB4 BK288.out; obtain ⟨Ao62, co62, eo62⟩ := zad HO_289000.out; subst eo62; obtain ⟨hcz63_0, hcz63_1, hcz63_2, hcz63_3, hfz63_0, hfz63_1, hfz63_2, hfz63_3⟩ := zB4 BK287.out; obtain ⟨Ao64, co64, eo64⟩ := zad HO_289001.out; subst eo64))
    refine bodyPost_ret (results_ct rfl _ _ gb287 28 #[.slice Ao62 x289000_1.length co62, .slice Ao64 x289001_1.length co64, .int .i64 x289002_1, .int .i64 (wrap64 (x10_1 + t301))] (0, 0) _ rfl (by (with_reducible repeat (first | refine zc ?_ _ | refine ze ?_ | refine zb ?_ _)); refine zu (cs := #[.slice Ao62 x289000_1.length co62, .slice Ao64 x289001_1.length co64, .int .i64 x289002_1, .int .i64 x288003_1]) ?_ 3 _ rfl; (with_reducible repeat (first | refine zc ?_ _ | refine ze ?_ | refine zb ?_ _)); refine zu (cs := #[.slice Ao62 x289000_1.length co62, .slice Ao64 x289001_1.length co64, .int .i64 x288002_1, .int .i64 x288003_1]) ?_ 2 _ rfl; (with_reducible repeat (first | refine zc ?_ _ | refine ze ?_ | refine zb ?_ _)); refine zu (cs := #[.slice Ao62 x289000_1.length co62, .slice none 0 0, .int .i64 x288002_1, .int .i64 x288003_1]) ?_ 1 _ rfl; (with_reducible repeat (first | refine zc ?_ _ | refine ze ?_ | refine zb ?_ _)); refine zu (cs := #[.slice none 0 0, .slice none 0 0, .int .i64 x288002_1, .int .i64 x288003_1]) ?_ 0 _ rfl; (with_reducible repeat (first | refine zc ?_ _ | refine ze ?_ | refine zb ?_ _)); refine zr ?_ NB287_288.out _; (with_reducible repeat (first | refine zc ?_ _ | refine ze ?_ | refine zb ?_ _)); exact BK287.out) Try.underlying28 rfl zG125) rfl ?_
    exact ⟨_, _, zH92, by (with_reducible repeat (first | apply zf | apply zg | apply zh)); exact zo (zd (p := ⟨gb287, 3, none⟩) (zd (p := ⟨gb287, 2, none⟩) (zd (p := ⟨gb287, 1, none⟩) (zd (p := ⟨gb287, 0, none⟩) (zd (p := ⟨gb288, 3, none⟩) (zq (zq HO_289000.out BK288.out zG126) BK287.out zG126) (fun _ hk => hk.1.2) (.int .i64 (wrap64 (x10_1 + t301)))) (fun _ hk => hk.2) (.slice Ao62 x289000_1.length co62)) (fun _ hk => hk.2) (.slice Ao64 x289001_1.length co64)) (fun _ hk => hk.2) (.int .i64 x289002_1)) (fun _ hk => hk.2) (.int .i64 (wrap64 (x10_1 + t301)))) (fun _ hk => hk.1.1), by (with_reducible repeat (first | apply zf | apply zg | apply zh)); exact zo (zd (p := ⟨gb287, 3, none⟩) (zd (p := ⟨gb287, 2, none⟩) (zd (p := ⟨gb287, 1, none⟩) (zd (p := ⟨gb287, 0, none⟩) (zd (p := ⟨gb288, 3, none⟩) (zq (zq HO_289001.out BK288.out zG126) BK287.out zG126) (fun _ hk => hk.1.2) (.int .i64 (wrap64 (x10_1 + t301)))) (fun _ hk => hk.2) (.slice Ao62 x289000_1.length co62)) (fun _ hk => hk.2) (.slice Ao64 x289001_1.length co64)) (fun _ hk => hk.2) (.int .i64 x289002_1)) (fun _ hk => hk.2) (.int .i64 (wrap64 (x10_1 + t301)))) (fun _ hk => hk.1.1), zH44⟩

   rw [if_pos c12] at H
   have c12b0 := decide_eq_true c12
   clear c12
   by_cases c13 : 0 ≤ x11_1
   rotate_left
   ·rw [if_neg c13] at H
    exact absurd H (by simp)
   rw [if_pos c13] at H
   have c13b0 := decide_eq_true c13
   clear c13
   by_cases c14 : 0 ≤ (rd l2 x11_1)
   rotate_left
   ·rw [if_neg c14] at H
    exact absurd H (by simp)
   rw [if_pos c14] at H
   have c14b0 := decide_eq_true c14
   clear c14
   by_cases c15 : (rd l2 x11_1) < (l0.length : Int)
   rotate_left
   ·rw [if_neg c15] at H
    exact absurd H (by simp)
   rw [if_pos c15] at H
   have c15b0 := decide_eq_true c15
   clear c15
   replace H := Option.bind_eq_some_iff.mp H
   obtain ⟨t293, A160, H⟩ := H
   replace H : (if (wrap64 (x10_1 + t293)) > ((rd_T37 l0 (rd l2 x11_1)).f3) then (some (([] : List Int), ([] : List Int), 0, 0, false)) else (if x289000_1.length < 17592186044416 then (if x289001_1.length < 17592186044416 then (spec_l20Route.l0 k1 l0 l2 (wrap64 ((mx (wrap64 (x10_1 + t293)) ((rd_T37 l0 (rd l2 x11_1)).f2)) + ((rd_T37 l0 (rd l2 x11_1)).f4))) (wrap64 (x11_1 + 1)) (x289000_1 ++ [rd l2 x11_1]) (x289001_1 ++ [wrap64 (x10_1 + t293)]) (wrap64 (x289002_1 + (mx 0 (wrap64 (((rd_T37 l0 (rd l2 x11_1)).f2) - (wrap64 (x10_1 + t293))))))) 0 ((rd_T37 l0 (rd l2 x11_1)).f0) ((rd_T37 l0 (rd l2 x11_1)).f1) ((rd_T37 l0 (rd l2 x11_1)).f2) ((rd_T37 l0 (rd l2 x11_1)).f3) ((rd_T37 l0 (rd l2 x11_1)).f4)) else (none)) else (none))) = some (r1, r2, r3, r4, r5) := H
   have A16 := za A160
   clear A160
   by_cases c17 : (wrap64 (x10_1 + t293)) > ((rd_T37 l0 (rd l2 x11_1)).f3)
   ·rw [if_pos c17] at H
    have c17b0 : decide (((rd_T37 l0 (rd l2 x11_1)).f3) < (wrap64 (x10_1 + t293))) = true := decide_eq_true c17
    clear c17
    simp only [Option.some.injEq, Prod.mk.injEq] at H
    obtain ⟨rfl, rfl, rfl, rfl, rfl⟩ := H
    have p290 : 0 ≤ (x11_1 : Int) := zO
    have q290 : x11_1 < (l2.length : Int) := zO
    obtain ⟨ad290, e290, hx290_0⟩ := zao HR2.out x11_1 p290 q290
    cases e290
    replace hx290_0 := (HB.out.cell (zx w _ hx290_0)).trans hx290_0
    replace p290 := eq_true p290
    replace q290 := eq_true q290
    have p291 : 0 ≤ ((rd l2 x11_1) : Int) := zO
    have q291 : (rd l2 x11_1) < (l0.length : Int) := zO
    obtain ⟨ad291, e291, hx291_0, hx291_1, hx291_2, hx291_3, hx291_4⟩ := at_T37 HR0.out (rd l2 x11_1) p291 q291
    cases e291
    replace hx291_0 := (HB.out.cell (zx w _ hx291_0)).trans hx291_0
    replace hx291_1 := (HB.out.cell (zx w _ hx291_1)).trans hx291_1
    replace hx291_2 := (HB.out.cell (zx w _ hx291_2)).trans hx291_2
    replace hx291_3 := (HB.out.cell (zx w _ hx291_3)).trans hx291_3
    replace hx291_4 := (HB.out.cell (zx w _ hx291_4)).trans hx291_4
    replace p291 := eq_true p291
    replace q291 := eq_true q291
    go_wp2_with (first | ((with_reducible refine gate_dst (N := 12) rfl ?_); refine box_event ?hg (N := 12) ?hd (cs := #[.int .i64 0, .int .i64 0, .int .i64 0, .int .i64 0, .int .i64 0]) (t := 37) ?hr ?_; (case hd => rfl); (case hg => rfl); (case hr => exact zH103); intro gb292 hg w18 hbox hb; have n_ := zA_ (za (zp zK193 hb)) (zA_ (za (zp zK194 hb)) (zA_ (za (zs (g := gb287) (o := .cells #[.slice none 0 0, .slice none 0 0, .int .i64 x288002_1, .int .i64 x288003_1] 28 (0, 0)) zK183 hb)) (zA_ (za (zs (g := gb288) (o := .cells #[u289000, u289001, .int .i64 x289002_1, .int .i64 0] 28 (0, 0)) zK184 hb)) (zA_ (za (zs (g := gb289) (o := .cells #[.int .i64 x290000_1, .int .i64 x290001_1, .int .i64 x290002_1, .int .i64 x290003_1, .int .i64 x290004_1] 37 (0, 0)) zK185 hb)) (zA_ (za (zv zK163 hb)) (zA_ (za (hbox)) (zA_ (zN1 w.heap.size hg (zt zK163)) (zA_ (zN1 w.heap.size hg (zt zK163)) (zN3 hg (zac (g := gb287) (o := .cells #[.slice none 0 0, .slice none 0 0, .int .i64 x288002_1, .int .i64 x288003_1] 28 (0, 0)) zK183) (zN3 hg (zac (g := gb288) (o := .cells #[u289000, u289001, .int .i64 x289002_1, .int .i64 0] 28 (0, 0)) zK184) (zN2 hg (zac (g := gb289) (o := .cells #[.int .i64 x290000_1, .int .i64 x290001_1, .int .i64 x290002_1, .int .i64 x290003_1, .int .i64 x290004_1] 37 (0, 0)) zK185)))))))))))); clear HO_289000 HO_289001 BK287 BK288 BK289 HB; obtain ⟨HO_289000, HO_289001, BK287, BK288, BK289, HB, BK292, GW292, GE292, NB287_292, NB292_287, NB288_292, NB292_288, NB289_292, NB292_289⟩ := n_; clear hb hbox hg; have hnb19 := NB292_287.out; have hnc19 := NB287_292.out; have hnb20 := NB292_288.out; have hnc20 := NB288_292.out; have hnb21 := NB292_289.out; have hnc21 := NB289_292.out; obtain ⟨hcz22_0, hcz22_1, hcz22_2, hcz22_3, hcz22_4, hfz22_0, hfz22_1, hfz22_2, hfz22_3, hfz22_4⟩ := zB5 BK292.out; have hnb23 := NB289_287.out; have hnc23 := NB287_289.out; have hnb24 := NB289_288.out; have hnc24 := NB288_289.out; obtain ⟨hcz25_0, hcz25_1, hcz25_2, hcz25_3, hcz25_4, hfz25_0, hfz25_1, hfz25_2, hfz25_3, hfz25_4⟩ := zB5 BK289.out) | ((with_reducible refine gate_callee (f := 145) rfl ?_); refine goesL_ (some 32) rfl rfl Try.func145 zG125 rfl #[.agg #[.int .i64 x290000_1, .int .i64 x290001_1, .int .i64 x290002_1, .int .i64 x290003_1, .int .i64 x290004_1], .agg #[.int .i64 ((rd_T37 l0 (rd l2 x11_1)).f0), .int .i64 ((rd_T37 l0 (rd l2 x11_1)).f1), .int .i64 ((rd_T37 l0 (rd l2 x11_1)).f2), .int .i64 ((rd_T37 l0 (rd l2 x11_1)).f3), .int .i64 ((rd_T37 l0 (rd l2 x11_1)).f4)]] rfl zG87 ?_; (with_reducible refine (spec_l20Far.calls x290000_1 x290001_1 x290002_1 x290003_1 x290004_1 ((rd_T37 l0 (rd l2 x11_1)).f0) ((rd_T37 l0 (rd l2 x11_1)).f1) ((rd_T37 l0 (rd l2 x11_1)).f2) ((rd_T37 l0 (rd l2 x11_1)).f3) ((rd_T37 l0 (rd l2 x11_1)).f4) t293 _ A16.out).mono ?_); rintro e w26 ⟨rfl, hb⟩; refine ⟨_, rfl, ?_⟩; have n_ := zA_ (za (zp zK137 hb)) (zA_ (za (zp zK138 hb)) (zA_ (za (zs (g := gb287) (o := .cells #[.slice none 0 0, .slice none 0 0, .int .i64 x288002_1, .int .i64 x288003_1] 28 (0, 0)) zK125 hb)) (zA_ (za (zs (g := gb288) (o := .cells #[u289000, u289001, .int .i64 x289002_1, .int .i64 0] 28 (0, 0)) zK126 hb)) (zA_ (za (zs (g := gb289) (o := .cells #[.int .i64 x290000_1, .int .i64 x290001_1, .int .i64 x290002_1, .int .i64 x290003_1, .int .i64 x290004_1] 37 (0, 0)) zK127 hb)) (zA_ (za (zs (g := gb292) (o := .cells #[.int .i64 ((rd_T37 l0 (rd l2 x11_1)).f0), .int .i64 ((rd_T37 l0 (rd l2 x11_1)).f1), .int .i64 ((rd_T37 l0 (rd l2 x11_1)).f2), .int .i64 ((rd_T37 l0 (rd l2 x11_1)).f3), .int .i64 ((rd_T37 l0 (rd l2 x11_1)).f4)] 37 (0, 0)) zK112 hb)) (za (zv zK159 hb))))))); clear HO_289000 HO_289001 BK287 BK288 BK289 BK292 HB; obtain ⟨HO_289000, HO_289001, BK287, BK288, BK289, BK292, HB⟩ := n_; (try clear hb); (try clear hk); obtain ⟨hcz27_0, hcz27_1, hcz27_2, hcz27_3, hcz27_4, hfz27_0, hfz27_1, hfz27_2, hfz27_3, hfz27_4⟩ := zB5 BK292.out; have hnb28 := NB287_288.out; have hnc28 := NB288_287.out; obtain ⟨hcz29_0, hcz29_1, hcz29_2, hcz29_3, hfz29_0, hfz29_1, hfz29_2, hfz29_3⟩ := zB4 BK287.out))
    refine bodyPost_ret (results_ct rfl _ _ gb287 28 #[.slice none 0 0, .slice none 0 0, .int .i64 0, .int .i64 0] (0, 0) _ rfl (by (with_reducible repeat (first | refine zc ?_ _ | refine ze ?_ | refine zb ?_ _)); refine zu (cs := #[.slice none 0 0, .slice none 0 0, .int .i64 0, .int .i64 x288003_1]) ?_ 3 _ rfl; (with_reducible repeat (first | refine zc ?_ _ | refine ze ?_ | refine zb ?_ _)); refine zu (cs := #[.slice none 0 0, .slice none 0 0, .int .i64 x288002_1, .int .i64 x288003_1]) ?_ 2 _ rfl; (with_reducible repeat (first | refine zc ?_ _ | refine ze ?_ | refine zb ?_ _)); refine zu (cs := #[.slice none 0 0, .slice none 0 0, .int .i64 x288002_1, .int .i64 x288003_1]) ?_ 1 _ rfl; (with_reducible repeat (first | refine zc ?_ _ | refine ze ?_ | refine zb ?_ _)); refine zu (cs := #[.slice none 0 0, .slice none 0 0, .int .i64 x288002_1, .int .i64 x288003_1]) ?_ 0 _ rfl; (with_reducible repeat (first | refine zc ?_ _ | refine ze ?_ | refine zb ?_ _)); exact BK287.out) Try.underlying28 rfl zG125) rfl ?_
    exact ⟨_, _, zH92, zH73, zH73, zH37⟩
   rw [if_neg c17] at H
   have c17b0 : decide (((rd_T37 l0 (rd l2 x11_1)).f3) < (wrap64 (x10_1 + t293))) = false := decide_eq_false c17
   clear c17
   by_cases c30 : x289000_1.length < 17592186044416
   rotate_left
   ·rw [if_neg c30] at H
    exact absurd H (by simp)
   rw [if_pos c30] at H
   have LMc30 := za c30
   clear c30
   obtain ⟨y295, hy295⟩ : ∃ y_ : List Int, y_ = (x289000_1 ++ [rd l2 x11_1]) := ⟨_, rfl⟩
   replace H : (if x289001_1.length < 17592186044416 then (spec_l20Route.l0 k1 l0 l2 (wrap64 ((mx (wrap64 (x10_1 + t293)) ((rd_T37 l0 (rd l2 x11_1)).f2)) + ((rd_T37 l0 (rd l2 x11_1)).f4))) (wrap64 (x11_1 + 1)) y295 (x289001_1 ++ [wrap64 (x10_1 + t293)]) (wrap64 (x289002_1 + (mx 0 (wrap64 (((rd_T37 l0 (rd l2 x11_1)).f2) - (wrap64 (x10_1 + t293))))))) 0 ((rd_T37 l0 (rd l2 x11_1)).f0) ((rd_T37 l0 (rd l2 x11_1)).f1) ((rd_T37 l0 (rd l2 x11_1)).f2) ((rd_T37 l0 (rd l2 x11_1)).f3) ((rd_T37 l0 (rd l2 x11_1)).f4)) else (none)) = some (r1, r2, r3, r4, r5) := by first | (rw [hy295]; with_reducible exact H) | (have H2_ := (Option.bind_some _ _).symm.trans H; rw [hy295]; with_reducible exact H2_) | (have H2_ := (Option.bind_some _ _).symm.trans H; with_reducible exact H2_) | with_reducible exact H | (rw [hy295]; exact H) | exact H
   have Ny295 := za hy295
   clear hy295
   by_cases c31 : x289001_1.length < 17592186044416
   rotate_left
   ·rw [if_neg c31] at H
    exact absurd H (by simp)
   rw [if_pos c31] at H
   have LMc31 := za c31
   clear c31
   obtain ⟨y298, hy298⟩ : ∃ y_ : List Int, y_ = (x289001_1 ++ [wrap64 (x10_1 + t293)]) := ⟨_, rfl⟩
   replace H : (spec_l20Route.l0 k1 l0 l2 (wrap64 ((mx (wrap64 (x10_1 + t293)) ((rd_T37 l0 (rd l2 x11_1)).f2)) + ((rd_T37 l0 (rd l2 x11_1)).f4))) (wrap64 (x11_1 + 1)) y295 y298 (wrap64 (x289002_1 + (mx 0 (wrap64 (((rd_T37 l0 (rd l2 x11_1)).f2) - (wrap64 (x10_1 + t293))))))) 0 ((rd_T37 l0 (rd l2 x11_1)).f0) ((rd_T37 l0 (rd l2 x11_1)).f1) ((rd_T37 l0 (rd l2 x11_1)).f2) ((rd_T37 l0 (rd l2 x11_1)).f3) ((rd_T37 l0 (rd l2 x11_1)).f4)) = some (r1, r2, r3, r4, r5) := by first | (rw [hy298]; with_reducible exact H) | (have H2_ := (Option.bind_some _ _).symm.trans H; rw [hy298]; with_reducible exact H2_) | (have H2_ := (Option.bind_some _ _).symm.trans H; with_reducible exact H2_) | with_reducible exact H | (rw [hy298]; exact H) | exact H
   have Ny298 := za hy298
   clear hy298
   obtain ⟨ji32, hji32⟩ : ∃ j_ : Int, (mx 0 (wrap64 (((rd_T37 l0 (rd l2 x11_1)).f2) - (wrap64 (x10_1 + t293))))) = j_ := ⟨_, rfl⟩
   replace H : (spec_l20Route.l0 k1 l0 l2 (wrap64 ((mx (wrap64 (x10_1 + t293)) ((rd_T37 l0 (rd l2 x11_1)).f2)) + ((rd_T37 l0 (rd l2 x11_1)).f4))) (wrap64 (x11_1 + 1)) y295 y298 (wrap64 (x289002_1 + (ji32))) 0 ((rd_T37 l0 (rd l2 x11_1)).f0) ((rd_T37 l0 (rd l2 x11_1)).f1) ((rd_T37 l0 (rd l2 x11_1)).f2) ((rd_T37 l0 (rd l2 x11_1)).f3) ((rd_T37 l0 (rd l2 x11_1)).f4)) = some (r1, r2, r3, r4, r5) := by first | (rw [hji32] at H; exact H) | (simp only [hji32] at H ⊢; exact H)
   (try rw [hji32] at A16)
   have hji32_ : (if 0 < (wrap64 (((rd_T37 l0 (rd l2 x11_1)).f2) - (wrap64 (x10_1 + t293)))) then (wrap64 (((rd_T37 l0 (rd l2 x11_1)).f2) - (wrap64 (x10_1 + t293)))) else 0) = ji32 := hji32
   obtain ⟨ji33, hji33⟩ : ∃ j_ : Int, (mx (wrap64 (x10_1 + t293)) ((rd_T37 l0 (rd l2 x11_1)).f2)) = j_ := ⟨_, rfl⟩
   replace H : (spec_l20Route.l0 k1 l0 l2 (wrap64 ((ji33) + ((rd_T37 l0 (rd l2 x11_1)).f4))) (wrap64 (x11_1 + 1)) y295 y298 (wrap64 (x289002_1 + (ji32))) 0 ((rd_T37 l0 (rd l2 x11_1)).f0) ((rd_T37 l0 (rd l2 x11_1)).f1) ((rd_T37 l0 (rd l2 x11_1)).f2) ((rd_T37 l0 (rd l2 x11_1)).f3) ((rd_T37 l0 (rd l2 x11_1)).f4)) = some (r1, r2, r3, r4, r5) := by first | (rw [hji33] at H; exact H) | (simp only [hji33] at H ⊢; exact H)
   (try rw [hji33] at A16)
   have hji33_ : (if (wrap64 (x10_1 + t293)) < ((rd_T37 l0 (rd l2 x11_1)).f2) then ((rd_T37 l0 (rd l2 x11_1)).f2) else (wrap64 (x10_1 + t293))) = ji33 := hji33
   have H' := za H
   clear H
   have p290 : 0 ≤ (x11_1 : Int) := zO
   have q290 : x11_1 < (l2.length : Int) := zO
   obtain ⟨ad290, e290, hx290_0⟩ := zao HR2.out x11_1 p290 q290
   cases e290
   replace hx290_0 := (HB.out.cell (zx w _ hx290_0)).trans hx290_0
   replace p290 := eq_true p290
   replace q290 := eq_true q290
   have p291 : 0 ≤ ((rd l2 x11_1) : Int) := zO
   have q291 : (rd l2 x11_1) < (l0.length : Int) := zO
   obtain ⟨ad291, e291, hx291_0, hx291_1, hx291_2, hx291_3, hx291_4⟩ := at_T37 HR0.out (rd l2 x11_1) p291 q291
   cases e291
   replace hx291_0 := (HB.out.cell (zx w _ hx291_0)).trans hx291_0
   replace hx291_1 := (HB.out.cell (zx w _ hx291_1)).trans hx291_1
   replace hx291_2 := (HB.out.cell (zx w _ hx291_2)).trans hx291_2
   replace hx291_3 := (HB.out.cell (zx w _ hx291_3)).trans hx291_3
   replace hx291_4 := (HB.out.cell (zx w _ hx291_4)).trans hx291_4
   replace p291 := eq_true p291
   replace q291 := eq_true q291
   try go_wp2_with (first | ((with_reducible refine gate_dst (N := 12) rfl ?_); refine box_event ?hg (N := 12) ?hd (cs := #[.int .i64 0, .int .i64 0, .int .i64 0, .int .i64 0, .int .i64 0]) (t := 37) ?hr ?_; (case hd => rfl); (case hg => rfl); (case hr => exact zH103); intro gb292 hg w34 hbox hb; have n_ := zA_ (za (zp zK193 hb)) (zA_ (za (zp zK194 hb)) (zA_ (za (zs (g := gb287) (o := .cells #[.slice none 0 0, .slice none 0 0, .int .i64 x288002_1, .int .i64 x288003_1] 28 (0, 0)) zK183 hb)) (zA_ (za (zs (g := gb288) (o := .cells #[u289000, u289001, .int .i64 x289002_1, .int .i64 0] 28 (0, 0)) zK184 hb)) (zA_ (za (zs (g := gb289) (o := .cells #[.int .i64 x290000_1, .int .i64 x290001_1, .int .i64 x290002_1, .int .i64 x290003_1, .int .i64 x290004_1] 37 (0, 0)) zK185 hb)) (zA_ (za (zv zK163 hb)) (zA_ (za (hbox)) (zA_ (zN1 w.heap.size hg (zt zK163)) (zA_ (zN1 w.heap.size hg (zt zK163)) (zN3 hg (zac (g := gb287) (o := .cells #[.slice none 0 0, .slice none 0 0, .int .i64 x288002_1, .int .i64 x288003_1] 28 (0, 0)) zK183) (zN3 hg (zac (g := gb288) (o := .cells #[u289000, u289001, .int .i64 x289002_1, .int .i64 0] 28 (0, 0)) zK184) (zN2 hg (zac (g := gb289) (o := .cells #[.int .i64 x290000_1, .int .i64 x290001_1, .int .i64 x290002_1, .int .i64 x290003_1, .int .i64 x290004_1] 37 (0, 0)) zK185)))))))))))); clear HO_289000 HO_289001 BK287 BK288 BK289 HB; obtain ⟨HO_289000, HO_289001, BK287, BK288, BK289, HB, BK292, GW292, GE292, NB287_292, NB292_287, NB288_292, NB292_288, NB289_292, NB292_289⟩ := n_; clear hb hbox hg; have hnb35 := NB292_287.out; have hnc35 := NB287_292.out; have hnb36 := NB292_288.out; have hnc36 := NB288_292.out; have hnb37 := NB292_289.out; have hnc37 := NB289_292.out; obtain ⟨hcz38_0, hcz38_1, hcz38_2, hcz38_3, hcz38_4, hfz38_0, hfz38_1, hfz38_2, hfz38_3, hfz38_4⟩ := zB5 BK292.out; have hnb39 := NB289_287.out; have hnc39 := NB287_289.out; have hnb40 := NB289_288.out; have hnc40 := NB288_289.out; obtain ⟨hcz41_0, hcz41_1, hcz41_2, hcz41_3, hcz41_4, hfz41_0, hfz41_1, hfz41_2, hfz41_3, hfz41_4⟩ := zB5 BK289.out) | ((with_reducible refine gate_callee (f := 145) rfl ?_); refine goesL_ (some 32) rfl rfl Try.func145 zG125 rfl #[.agg #[.int .i64 x290000_1, .int .i64 x290001_1, .int .i64 x290002_1, .int .i64 x290003_1, .int .i64 x290004_1], .agg #[.int .i64 ((rd_T37 l0 (rd l2 x11_1)).f0), .int .i64 ((rd_T37 l0 (rd l2 x11_1)).f1), .int .i64 ((rd_T37 l0 (rd l2 x11_1)).f2), .int .i64 ((rd_T37 l0 (rd l2 x11_1)).f3), .int .i64 ((rd_T37 l0 (rd l2 x11_1)).f4)]] rfl zG87 ?_; (with_reducible refine (spec_l20Far.calls x290000_1 x290001_1 x290002_1 x290003_1 x290004_1 ((rd_T37 l0 (rd l2 x11_1)).f0) ((rd_T37 l0 (rd l2 x11_1)).f1) ((rd_T37 l0 (rd l2 x11_1)).f2) ((rd_T37 l0 (rd l2 x11_1)).f3) ((rd_T37 l0 (rd l2 x11_1)).f4) t293 _ A16.out).mono ?_); rintro e w42 ⟨rfl, hb⟩; refine ⟨_, rfl, ?_⟩; have n_ := zA_ (za (zp zK137 hb)) (zA_ (za (zp zK138 hb)) (zA_ (za (zs (g := gb287) (o := .cells #[.slice none 0 0, .slice none 0 0, .int .i64 x288002_1, .int .i64 x288003_1] 28 (0, 0)) zK125 hb)) (zA_ (za (zs (g := gb288) (o := .cells #[u289000, u289001, .int .i64 x289002_1, .int .i64 0] 28 (0, 0)) zK126 hb)) (zA_ (za (zs (g := gb289) (o := .cells #[.int .i64 x290000_1, .int .i64 x290001_1, .int .i64 x290002_1, .int .i64 x290003_1, .int .i64 x290004_1] 37 (0, 0)) zK127 hb)) (zA_ (za (zs (g := gb292) (o := .cells #[.int .i64 ((rd_T37 l0 (rd l2 x11_1)).f0), .int .i64 ((rd_T37 l0 (rd l2 x11_1)).f1), .int .i64 ((rd_T37 l0 (rd l2 x11_1)).f2), .int .i64 ((rd_T37 l0 (rd l2 x11_1)).f3), .int .i64 ((rd_T37 l0 (rd l2 x11_1)).f4)] 37 (0, 0)) zK112 hb)) (za (zv zK159 hb))))))); clear HO_289000 HO_289001 BK287 BK288 BK289 BK292 HB; obtain ⟨HO_289000, HO_289001, BK287, BK288, BK289, BK292, HB⟩ := n_; (try clear hb); (try clear hk); obtain ⟨hcz43_0, hcz43_1, hcz43_2, hcz43_3, hcz43_4, hfz43_0, hfz43_1, hfz43_2, hfz43_3, hfz43_4⟩ := zB5 BK292.out))
   obtain ⟨n0_, n1_, n2_, n3_, n4_, n5_, n6_⟩ := zD7 (zh HO_289000.out) (zh HO_289001.out) (ze BK287.out) (ze BK288.out) (ze BK289.out) (ze BK292.out) (zk HB.out)
   clear HO_289000 HO_289001 BK287 BK288 BK289 BK292 HB
   have HO_289000 := n0_
   have HO_289001 := n1_
   have BK287 := n2_
   have BK288 := n3_
   have BK289 := n4_
   have BK292 := n5_
   have HB := n6_
   clear n0_ n1_ n2_ n3_ n4_ n5_ n6_
   have p294 : 0 ≤ (x11_1 : Int) := zO
   have q294 : x11_1 < (l2.length : Int) := zO
   obtain ⟨ad294, e294, hx294_0⟩ := zao HR2.out x11_1 p294 q294
   have hw294_0 := hx294_0
   obtain rfl : ad290 = ad294 := (by injection e294)
   replace hx294_0 := (HB.out.cell (zx w _ hx294_0)).trans hx294_0
   replace p294 := eq_true p294
   replace q294 := eq_true q294
   refine start_ (n := 10) (S := fun w' => w'.cell? ⟨gb288, 0, none⟩ = some (u289000) ∧ w'.cell? ⟨gb288, 1, none⟩ = some (u289001) ∧ w'.cell? ⟨gb288, 2, none⟩ = some (.int .i64 x289002_1) ∧ w'.cell? ⟨gb288, 3, none⟩ = some (.int .i64 0) ∧ w'.cell? (ad290.add (x11_1).toNat) = some (.int .i64 (rd l2 x11_1))) (ds := [9]) #[false, false, false, false, false, false, false, false, false, false] zG125 rfl rfl ⟨(zl BK288.out 0).trans rfl, (zl BK288.out 1).trans rfl, (zl BK288.out 2).trans rfl, (zl BK288.out 3).trans rfl, ((HB.out.cell (zx w _ hw294_0)).trans hw294_0)⟩ (fun hHeld => ?_); refine with_tabW spec_l20Route.tab11 spec_l20Route.bits11 (fun HT_ HW_ => ?_)
   generalize w42.drew = w44 at HO_289000 HO_289001 BK287 BK288 BK289 BK292 HB hx294_0 hHeld ⊢
   refine zP 0 39 #[true, false, false, false, false, false, false, false, false, false] HT_ ?_
   refine zP 2 41 #[true, false, true, false, false, false, false, false, false, false] HT_ ?_
   refine zP 3 42 #[true, false, true, true, false, false, false, false, false, false] HT_ ?_
   refine zP 4 43 #[true, false, true, true, true, false, false, false, false, false] HT_ ?_
   refine zQ 1 40 #[true, true, true, true, true, false, false, false, false, false] HT_ HW_ hHeld ?_
   refine zQ 5 44 #[true, true, true, true, true, true, false, false, false, false] HT_ HW_ hHeld ?_
   refine one_ (i := 6) (N := some 45) #[true, true, true, true, true, true, true, false, false, false] rfl rfl (one_of HT_.out zG125) zG126 (fun K hK => ?_)
   refine value_ (w1 := ?_) (v := ?_) (by rfl) rfl ?_ ?_
   rotate_left 2
   ·go_simp
    constructor
    ·rfl
    ·rfl
   refine hK.out _ _ ⟨(zl (zb BK288.out _) 0).trans rfl, (zl (zb BK288.out _) 1).trans rfl, (zl (zb BK288.out _) 2).trans rfl, (zl (zb BK288.out _) 3).trans rfl, (World.cell?_alloc_lt _ _ _ (zx _ _ (((HB.out.cell (zx w _ hw294_0)).trans hw294_0)))).trans (((HB.out.cell (zx w _ hw294_0)).trans hw294_0))⟩ (fun hHeld => ?_)
   clear hK K
   refine norm_ (a' := ?_) ?_ ?_
   rotate_left
   ·show Act.put _ (some 45) _ = _
    simp only [Act.put, List.setIfInBounds_toArray, List.set_cons_zero, List.set_cons_succ, i64_w, i32_w]
    rfl
   refine one_ (i := 7) (N := some 46) #[true, true, true, true, true, true, true, true, false, false] rfl rfl (one_of HT_.out zG125) zG126 (fun K hK => ?_)
   refine Kd.R_append_step (Kd.int .i64) (w0 := w) w.heap.size (by rfl) (.tmp 40) (.tmp 45) 24 3 (.int .i64 0) 8 rfl Try.underlying24 info3 rfl zG126 (by omega) u289000 x289000_1 (rd l2 x11_1) [.int .i64 (rd l2 x11_1)] (fun k_ => some k_ ≠ (u289001 : Value).ownBlock) (fun _ => False) rfl rfl ?aP (fun _ hk => hk.elim) ?aF ?aO ?aB ?aS ?aL ?_
   (case aP => exact rfl)
   (case aB => exact zH35)
   (case aF => exact (fun k_ hk => Kd.fresh' (zab zK194) k_ hk))
   (case aO => exact zK193)
   (case aS => exact zH34)
   (case aL => have := LMc30.out; omega)
   intro v296 w45 ho hb hg hat
   rw [← Ny295.out] at ho
   obtain ⟨n0_, n1_, n2_, n3_, n4_, n5_, n6_⟩ := zD7 (zat (ok := (fun _ => True)) (by (with_reducible repeat (first | apply zf | apply zg | apply zh)); exact zo HO_289001.out (fun _ hk => ⟨trivial, hk⟩)) hg hat) (zak (g := gb287) (o := .cells #[.slice none 0 0, .slice none 0 0, .int .i64 x288002_1, .int .i64 x288003_1] 28 (0, 0)) zK183 hg (zan HO_289000.out BK287.out zG126)) (zak (g := gb288) (o := .cells #[u289000, u289001, .int .i64 x289002_1, .int .i64 0] 28 (0, 0)) zK184 hg (zan HO_289000.out BK288.out zG126)) (zak (g := gb289) (o := .cells #[.int .i64 x290000_1, .int .i64 x290001_1, .int .i64 x290002_1, .int .i64 x290003_1, .int .i64 x290004_1] 37 (0, 0)) zK185 hg (zan HO_289000.out BK289.out zG126)) (zak (g := gb292) (o := .cells #[.int .i64 ((rd_T37 l0 (rd l2 x11_1)).f0), .int .i64 ((rd_T37 l0 (rd l2 x11_1)).f1), .int .i64 ((rd_T37 l0 (rd l2 x11_1)).f2), .int .i64 ((rd_T37 l0 (rd l2 x11_1)).f3), .int .i64 ((rd_T37 l0 (rd l2 x11_1)).f4)] 37 (0, 0)) (by (with_reducible repeat (first | refine zc ?_ _ | refine ze ?_ | refine zb ?_ _)); exact BK292.out) hg (zan HO_289000.out BK292.out zG126)) (hb) (ho)
   clear HO_289001 BK287 BK288 BK289 BK292 HB HO_289000
   have HO_289001 := n0_
   have BK287 := n1_
   have BK288 := n2_
   have BK289 := n3_
   have BK292 := n4_
   have HB := n5_
   have HO297 := n6_
   clear n0_ n1_ n2_ n3_ n4_ n5_ n6_
   clear ho hb hg hat
   obtain ⟨Ao46, co46, eo46⟩ := zad HO297.out
   (first | subst eo46 | (injection eo46 with f1_ f2_ f3_; have f4_ := f1_.symm; have f5_ := f3_.symm; clear f1_ f2_ f3_; subst f4_; subst f5_))
   refine hK.out _ _ ⟨(zl BK288.out 0).trans rfl, (zl BK288.out 1).trans rfl, (zl BK288.out 2).trans rfl, (zl BK288.out 3).trans rfl, ((HB.out.cell (zx w _ hw294_0)).trans hw294_0)⟩ (fun hHeld => ?_)
   clear hK K
   refine norm_ (a' := ?_) ?_ ?_
   rotate_left
   ·show Act.put _ (some 46) _ = _
    simp only [Act.put, List.setIfInBounds_toArray, List.set_cons_zero, List.set_cons_succ, i64_w, i32_w]
    rfl
   refine zP 8 47 #[true, true, true, true, true, true, true, true, true, false] HT_ ?_
   refine last_ (i := 9) (N := none) #[true, true, true, true, true, true, true, true, true, true] rfl rfl (one_of HT_.out zG125) zG126 (fun K hK => ?_)
   have hs47 : w45.cell? ⟨gb288, 0, none⟩ = some (u289000) := (zl BK288.out 0).trans rfl
   have hfs47 := zn BK288.out 0
   have hns47_0 := NB287_288.out
   have hns47_2 := NB289_288.out
   have hns47_3 := NB292_288.out
   have hms47_0 := NB288_287.out
   have hms47_2 := NB288_289.out
   have hms47_3 := NB288_292.out
   refine skip_ (w1 := ?_) (by rfl) rfl ?_ ?_
   rotate_left
   ·go_simp
    rfl
   refine hK.out _ _ ?_
   clear hK K
   refine done_ (done_of HT_.out zG125) ?_
   have hnb48 := NB288_287.out
   have hnc48 := NB287_288.out
   obtain ⟨hcz49_0, hcz49_1, hcz49_2, hcz49_3, hfz49_0, hfz49_1, hfz49_2, hfz49_3⟩ := zB4 BK288.out
   try go_wp2_with (first | ((with_reducible refine gate_builtin (b := .append) (xs := #[.tmp 49, .tmp 51]) rfl ?_); at_builtin; refine zaz (Kd.int .i64) (w0 := w) w.heap.size rfl (.tmp 49) (.tmp 51) 24 3 (.int .i64 0) 8 rfl Try.underlying24 info3 rfl zG126 (by omega) u289001 x289001_1 (wrap64 (x10_1 + t293)) [.int .i64 (wrap64 (x10_1 + t293))] (fun k_ => some k_ ≠ (.slice Ao46 y295.length co46 : Value).ownBlock) (fun _ => False) rfl zK220 ?aP (fun _ hk => hk.elim) ?aF ?aO ?aB ?aS ?aL ?_; (case aP => exact rfl); (case aB => exact zH35); (case aF => exact (fun k_ hk => Kd.fresh' (zab (by (with_reducible repeat (first | apply zf | apply zg | apply zh)); exact (zo (zd (p := ⟨gb288, 0, none⟩) (zq HO297.out BK288.out zG126) (fun _ hk => hk.2) (.slice Ao46 y295.length co46)) (fun _ h_ => h_.1)))) k_ hk)); (case aO => exact (by (with_reducible repeat (first | apply zf | apply zg | apply zh)); exact zo (zd (p := ⟨gb288, 0, none⟩) (zq HO_289001.out BK288.out zG126) (fun _ hk => hk.2) (.slice Ao46 y295.length co46)) (fun _ hk => hk.1.2))); (case aS => exact zH34); (case aL => have := LMc31.out; omega); intro v299 w50 ho hb hg hat; rw [← Ny298.out] at ho; have n_ := zA_ (za (zak (g := gb287) (o := .cells #[.slice none 0 0, .slice none 0 0, .int .i64 x288002_1, .int .i64 x288003_1] 28 (0, 0)) (by (with_reducible repeat (first | refine zc ?_ _ | refine ze ?_ | refine zb ?_ _)); refine zr ?_ NB287_288.out _; (with_reducible repeat (first | refine zc ?_ _ | refine ze ?_ | refine zb ?_ _)); exact BK287.out) hg (zan HO_289001.out BK287.out zG126))) (zA_ (za (zak (g := gb288) (o := .cells #[.slice Ao46 y295.length co46, u289001, .int .i64 x289002_1, .int .i64 0] 28 (0, 0)) (by (with_reducible repeat (first | refine zc ?_ _ | refine ze ?_ | refine zb ?_ _)); refine zu (cs := #[u289000, u289001, .int .i64 x289002_1, .int .i64 0]) ?_ 0 _ rfl; (with_reducible repeat (first | refine zc ?_ _ | refine ze ?_ | refine zb ?_ _)); exact BK288.out) hg (zan HO_289001.out BK288.out zG126))) (zA_ (za (zak (g := gb289) (o := .cells #[.int .i64 x290000_1, .int .i64 x290001_1, .int .i64 x290002_1, .int .i64 x290003_1, .int .i64 x290004_1] 37 (0, 0)) (by (with_reducible repeat (first | refine zc ?_ _ | refine ze ?_ | refine zb ?_ _)); refine zr ?_ NB289_288.out _; (with_reducible repeat (first | refine zc ?_ _ | refine ze ?_ | refine zb ?_ _)); exact BK289.out) hg (zan HO_289001.out BK289.out zG126))) (zA_ (za (zak (g := gb292) (o := .cells #[.int .i64 ((rd_T37 l0 (rd l2 x11_1)).f0), .int .i64 ((rd_T37 l0 (rd l2 x11_1)).f1), .int .i64 ((rd_T37 l0 (rd l2 x11_1)).f2), .int .i64 ((rd_T37 l0 (rd l2 x11_1)).f3), .int .i64 ((rd_T37 l0 (rd l2 x11_1)).f4)] 37 (0, 0)) (by (with_reducible repeat (first | refine zc ?_ _ | refine ze ?_ | refine zb ?_ _)); refine zr ?_ NB292_288.out _; (with_reducible repeat (first | refine zc ?_ _ | refine ze ?_ | refine zb ?_ _)); exact BK292.out) hg (zan HO_289001.out BK292.out zG126))) (zA_ (za (zat (ok := (fun _ => True)) (by (with_reducible repeat (first | apply zf | apply zg | apply zh)); exact zo (zd (p := ⟨gb288, 0, none⟩) (zq HO297.out BK288.out zG126) (fun _ hk => hk.2) (.slice Ao46 y295.length co46)) (fun _ hk => ⟨trivial, hk.1⟩)) hg hat)) (zA_ (za (hb)) (za (ho))))))); clear BK287 BK288 BK289 BK292 HO297 HB HO_289001; obtain ⟨BK287, BK288, BK289, BK292, HO297, HB, HO300⟩ := n_; clear ho hb hg hat; obtain ⟨Ao51, co51, eo51⟩ := zad HO300.out; subst eo51; obtain ⟨hcz52_0, hcz52_1, hcz52_2, hcz52_3, hfz52_0, hfz52_1, hfz52_2, hfz52_3⟩ := zB4 BK288.out; obtain ⟨hcz53_0, hcz53_1, hcz53_2, hcz53_3, hcz53_4, hfz53_0, hfz53_1, hfz53_2, hfz53_3, hfz53_4⟩ := zB5 BK292.out; obtain ⟨hcz54_0, hcz54_1, hcz54_2, hcz54_3, hcz54_4, hfz54_0, hfz54_1, hfz54_2, hfz54_3, hfz54_4⟩ := zB5 BK289.out))
   go_roundg k1
   case measure => have := HK1.out; omega
   case rel => exact ⟨(wrap64 ((ji33) + ((rd_T37 l0 (rd l2 x11_1)).f4))), (wrap64 (x11_1 + 1)), (x288002_1), (x288003_1), (y295), (y298), (wrap64 (x289002_1 + (ji32))), ((rd_T37 l0 (rd l2 x11_1)).f0), ((rd_T37 l0 (rd l2 x11_1)).f1), ((rd_T37 l0 (rd l2 x11_1)).f2), ((rd_T37 l0 (rd l2 x11_1)).f3), ((rd_T37 l0 (rd l2 x11_1)).f4), (.slice Ao46 y295.length co46), (.slice Ao51 y298.length co51), (by first | rfl | (simp; done) | (simp only [← hji33] <;> (first | rfl | simp)) | (simp [*]; done)), zG124, H', ⟨zH106⟩, ⟨by (with_reducible repeat (first | apply zf | apply zg | apply zh)); exact zo (zd (p := ⟨gb289, 4, none⟩) (zd (p := ⟨gb289, 3, none⟩) (zd (p := ⟨gb289, 2, none⟩) (zd (p := ⟨gb289, 1, none⟩) (zd (p := ⟨gb289, 0, none⟩) (zd (p := ⟨gb288, 2, none⟩) (zd (p := ⟨gb288, 1, none⟩) (zq (zq HO297.out BK288.out zG126) BK289.out zG126) (fun _ hk => hk.1.2) (.slice Ao51 y298.length co51)) (fun _ hk => hk.1.2) (.int .i64 (wrap64 (x289002_1 + (ji32))))) (fun _ hk => hk.2) (.int .i64 ((rd_T37 l0 (rd l2 x11_1)).f0))) (fun _ hk => hk.2) (.int .i64 ((rd_T37 l0 (rd l2 x11_1)).f1))) (fun _ hk => hk.2) (.int .i64 ((rd_T37 l0 (rd l2 x11_1)).f2))) (fun _ hk => hk.2) (.int .i64 ((rd_T37 l0 (rd l2 x11_1)).f3))) (fun _ hk => hk.2) (.int .i64 ((rd_T37 l0 (rd l2 x11_1)).f4))) (fun _ hk => hk.1.1.2)⟩, ⟨by (with_reducible repeat (first | apply zf | apply zg | apply zh)); exact zo (zd (p := ⟨gb289, 4, none⟩) (zd (p := ⟨gb289, 3, none⟩) (zd (p := ⟨gb289, 2, none⟩) (zd (p := ⟨gb289, 1, none⟩) (zd (p := ⟨gb289, 0, none⟩) (zd (p := ⟨gb288, 2, none⟩) (zd (p := ⟨gb288, 1, none⟩) (zq (zq HO300.out BK288.out zG126) BK289.out zG126) (fun _ hk => hk.1.2) (.slice Ao51 y298.length co51)) (fun _ hk => hk.1.2) (.int .i64 (wrap64 (x289002_1 + (ji32))))) (fun _ hk => hk.2) (.int .i64 ((rd_T37 l0 (rd l2 x11_1)).f0))) (fun _ hk => hk.2) (.int .i64 ((rd_T37 l0 (rd l2 x11_1)).f1))) (fun _ hk => hk.2) (.int .i64 ((rd_T37 l0 (rd l2 x11_1)).f2))) (fun _ hk => hk.2) (.int .i64 ((rd_T37 l0 (rd l2 x11_1)).f3))) (fun _ hk => hk.2) (.int .i64 ((rd_T37 l0 (rd l2 x11_1)).f4))) (fun _ hk => hk.1.1)⟩, ⟨by (with_reducible repeat (first | refine zc ?_ _ | refine ze ?_ | refine zb ?_ _)); refine zr ?_ NB287_289.out _; (with_reducible repeat (first | refine zc ?_ _ | refine ze ?_ | refine zb ?_ _)); refine zr ?_ NB287_289.out _; (with_reducible repeat (first | refine zc ?_ _ | refine ze ?_ | refine zb ?_ _)); refine zr ?_ NB287_289.out _; (with_reducible repeat (first | refine zc ?_ _ | refine ze ?_ | refine zb ?_ _)); refine zr ?_ NB287_289.out _; (with_reducible repeat (first | refine zc ?_ _ | refine ze ?_ | refine zb ?_ _)); refine zr ?_ NB287_289.out _; (with_reducible repeat (first | refine zc ?_ _ | refine ze ?_ | refine zb ?_ _)); refine zr ?_ NB287_288.out _; (with_reducible repeat (first | refine zc ?_ _ | refine ze ?_ | refine zb ?_ _)); refine zr ?_ NB287_288.out _; (with_reducible repeat (first | refine zc ?_ _ | refine ze ?_ | refine zb ?_ _)); exact BK287.out⟩, ⟨by (with_reducible repeat (first | refine zc ?_ _ | refine ze ?_ | refine zb ?_ _)); refine zr ?_ NB288_289.out _; (with_reducible repeat (first | refine zc ?_ _ | refine ze ?_ | refine zb ?_ _)); refine zr ?_ NB288_289.out _; (with_reducible repeat (first | refine zc ?_ _ | refine ze ?_ | refine zb ?_ _)); refine zr ?_ NB288_289.out _; (with_reducible repeat (first | refine zc ?_ _ | refine ze ?_ | refine zb ?_ _)); refine zr ?_ NB288_289.out _; (with_reducible repeat (first | refine zc ?_ _ | refine ze ?_ | refine zb ?_ _)); refine zr ?_ NB288_289.out _; (with_reducible repeat (first | refine zc ?_ _ | refine ze ?_ | refine zb ?_ _)); refine zu (cs := #[.slice Ao46 y295.length co46, .slice Ao51 y298.length co51, .int .i64 x289002_1, .int .i64 0]) ?_ 2 _ rfl; (with_reducible repeat (first | refine zc ?_ _ | refine ze ?_ | refine zb ?_ _)); refine zu (cs := #[.slice Ao46 y295.length co46, u289001, .int .i64 x289002_1, .int .i64 0]) ?_ 1 _ rfl; (with_reducible repeat (first | refine zc ?_ _ | refine ze ?_ | refine zb ?_ _)); exact BK288.out⟩, ⟨by (with_reducible repeat (first | refine zc ?_ _ | refine ze ?_ | refine zb ?_ _)); refine zu (cs := #[.int .i64 ((rd_T37 l0 (rd l2 x11_1)).f0), .int .i64 ((rd_T37 l0 (rd l2 x11_1)).f1), .int .i64 ((rd_T37 l0 (rd l2 x11_1)).f2), .int .i64 ((rd_T37 l0 (rd l2 x11_1)).f3), .int .i64 x290004_1]) ?_ 4 _ rfl; (with_reducible repeat (first | refine zc ?_ _ | refine ze ?_ | refine zb ?_ _)); refine zu (cs := #[.int .i64 ((rd_T37 l0 (rd l2 x11_1)).f0), .int .i64 ((rd_T37 l0 (rd l2 x11_1)).f1), .int .i64 ((rd_T37 l0 (rd l2 x11_1)).f2), .int .i64 x290003_1, .int .i64 x290004_1]) ?_ 3 _ rfl; (with_reducible repeat (first | refine zc ?_ _ | refine ze ?_ | refine zb ?_ _)); refine zu (cs := #[.int .i64 ((rd_T37 l0 (rd l2 x11_1)).f0), .int .i64 ((rd_T37 l0 (rd l2 x11_1)).f1), .int .i64 x290002_1, .int .i64 x290003_1, .int .i64 x290004_1]) ?_ 2 _ rfl; (with_reducible repeat (first | refine zc ?_ _ | refine ze ?_ | refine zb ?_ _)); refine zu (cs := #[.int .i64 ((rd_T37 l0 (rd l2 x11_1)).f0), .int .i64 x290001_1, .int .i64 x290002_1, .int .i64 x290003_1, .int .i64 x290004_1]) ?_ 1 _ rfl; (with_reducible repeat (first | refine zc ?_ _ | refine ze ?_ | refine zb ?_ _)); refine zu (cs := #[.int .i64 x290000_1, .int .i64 x290001_1, .int .i64 x290002_1, .int .i64 x290003_1, .int .i64 x290004_1]) ?_ 0 _ rfl; (with_reducible repeat (first | refine zc ?_ _ | refine ze ?_ | refine zb ?_ _)); refine zr ?_ NB289_288.out _; (with_reducible repeat (first | refine zc ?_ _ | refine ze ?_ | refine zb ?_ _)); refine zr ?_ NB289_288.out _; (with_reducible repeat (first | refine zc ?_ _ | refine ze ?_ | refine zb ?_ _)); exact BK289.out⟩, ⟨zH37⟩⟩
end Go.Proofs.Ytojncbpeeboooaa.Q
