-- squeezed
-- made by pp.py (wip/tools) out of the translation; Lean checks it
import Derived.Test.YtoibmbkmpadmnaaG0
import Derived.Test.YtoibmbkmpadmnaaG2
namespace Go.Proofs.Ytoibmbkmpadmnaa.G
open Go.RowKit Go.Proofs.YtoibmbkmpadmnaaW.PrintWords Go.Proofs.YtoibmbkmpadmnaaW.PrintLast Go.Proofs.YtoibmbkmpadmnaaW.PrintMore
attribute [local go_sem] max2_int min2_int max_two min_two max_three min_three max_four min_four   -- for this text's walks alone
set_option linter.unusedVariables false
set_option linter.unusedSimpArgs false

abbrev q3a := @blk_cell
/-! ### cmp_Compare_int: function 61 -/
def cmp_Compare_int.f (a0 : Int) (a1 : Int) : Option (Int) := (cmp_isNaN_int.f a0).bind fun t119 => ((cmp_isNaN_int.f a1).bind fun t120 => (if t119 = true then (if t120 = true then (some 0) else (some (-1))) else (if t120 = true then (some 1) else (if a0 < a1 then (some (-1)) else (if a0 > a1 then (some 1) else (some 0))))))
set_option maxHeartbeats 64000000 in
set_option maxRecDepth 100000 in
theorem cmp_Compare_int.calls (a0 : Int) (a1 : Int) (r : Int) (w : World) (h : cmp_Compare_int.f a0 a1 = some r) :
  Calls Try.prog 61 #[.int .i64 a0, .int .i64 a1] w fun e w' => e = .returned (.int .i64 r) ∧ Drawn0 w w' := by
 have H : ((cmp_isNaN_int.f a0).bind fun t119 => ((cmp_isNaN_int.f a1).bind fun t120 => (if t119 = true then (if t120 = true then (some 0) else (some (-1))) else (if t120 = true then (some 1) else (if a0 < a1 then (some (-1)) else (if a0 > a1 then (some 1) else (some 0))))))) = some r := h
 clear h
 replace H := Option.bind_eq_some_iff.mp H
 obtain ⟨t119, A30, H⟩ := H
 replace H : ((cmp_isNaN_int.f a1).bind fun t120 => (if t119 = true then (if t120 = true then (some 0) else (some (-1))) else (if t120 = true then (some 1) else (if a0 < a1 then (some (-1)) else (if a0 > a1 then (some 1) else (some 0)))))) = some r := H
 have A3 := zb A30
 clear A30
 replace H := Option.bind_eq_some_iff.mp H
 obtain ⟨t120, A40, H⟩ := H
 replace H : (if t119 = true then (if t120 = true then (some 0) else (some (-1))) else (if t120 = true then (some 1) else (if a0 < a1 then (some (-1)) else (if a0 > a1 then (some 1) else (some 0))))) = some r := H
 have A4 := zb A40
 clear A40
 by_cases c5 : t119 = true
 ·subst c5
  have H1 : (if t120 = true then (some 0) else (some (-1))) = some r := by rw [if_pos rfl] at H; exact H
  clear H
  have H := H1
  clear H1
  by_cases c6 : t120 = true
  ·subst c6
   have H1 : (some 0) = some r := by rw [if_pos rfl] at H; exact H
   clear H
   have H := H1
   clear H1
   obtain rfl := Option.some.inj H
   go_enter Try.func61, Try.ntmps61
   go_wp2_with (first | ((with_reducible refine gate_callee (f := 80) rfl ?_); refine goesL_ (some 8) rfl rfl Try.func80 zG75 rfl #[.int .i64 a0] rfl zG55 ?_; (with_reducible refine (cmp_isNaN_int.calls a0 true _ A3.out).mono ?_); rintro e w' ⟨rfl, ⟨nd, rfl⟩⟩; refine ⟨_, rfl, ?_⟩) | ((with_reducible refine gate_callee (f := 80) rfl ?_); refine goesL_ (some 10) rfl rfl Try.func80 zG75 rfl #[.int .i64 a1] rfl zG55 ?_; (with_reducible refine (cmp_isNaN_int.calls a1 true _ A4.out).mono ?_); rintro e w' ⟨rfl, ⟨nd, rfl⟩⟩; refine ⟨_, rfl, ?_⟩))
   go_ret
   exact zH67
  replace c6 := Bool.eq_false_iff.mpr c6
  subst c6
  have H1 : (some (-1)) = some r := by rw [if_neg (show ¬ (false = true) by decide)] at H; exact H
  clear H
  have H := H1
  clear H1
  obtain rfl := Option.some.inj H
  go_enter Try.func61, Try.ntmps61
  go_wp2_with (first | ((with_reducible refine gate_callee (f := 80) rfl ?_); refine goesL_ (some 8) rfl rfl Try.func80 zG75 rfl #[.int .i64 a0] rfl zG55 ?_; (with_reducible refine (cmp_isNaN_int.calls a0 true _ A3.out).mono ?_); rintro e w' ⟨rfl, ⟨nd, rfl⟩⟩; refine ⟨_, rfl, ?_⟩) | ((with_reducible refine gate_callee (f := 80) rfl ?_); refine goesL_ (some 10) rfl rfl Try.func80 zG75 rfl #[.int .i64 a1] rfl zG55 ?_; (with_reducible refine (cmp_isNaN_int.calls a1 false _ A4.out).mono ?_); rintro e w' ⟨rfl, ⟨nd, rfl⟩⟩; refine ⟨_, rfl, ?_⟩))
  go_ret
  exact zH67
 replace c5 := Bool.eq_false_iff.mpr c5
 subst c5
 have H1 : (if t120 = true then (some 1) else (if a0 < a1 then (some (-1)) else (if a0 > a1 then (some 1) else (some 0)))) = some r := by rw [if_neg (show ¬ (false = true) by decide)] at H; exact H
 clear H
 have H := H1
 clear H1
 by_cases c7 : t120 = true
 ·subst c7
  have H1 : (some 1) = some r := by rw [if_pos rfl] at H; exact H
  clear H
  have H := H1
  clear H1
  obtain rfl := Option.some.inj H
  go_enter Try.func61, Try.ntmps61
  go_wp2_with (first | ((with_reducible refine gate_callee (f := 80) rfl ?_); refine goesL_ (some 8) rfl rfl Try.func80 zG75 rfl #[.int .i64 a0] rfl zG55 ?_; (with_reducible refine (cmp_isNaN_int.calls a0 false _ A3.out).mono ?_); rintro e w' ⟨rfl, ⟨nd, rfl⟩⟩; refine ⟨_, rfl, ?_⟩) | ((with_reducible refine gate_callee (f := 80) rfl ?_); refine goesL_ (some 10) rfl rfl Try.func80 zG75 rfl #[.int .i64 a1] rfl zG55 ?_; (with_reducible refine (cmp_isNaN_int.calls a1 true _ A4.out).mono ?_); rintro e w' ⟨rfl, ⟨nd, rfl⟩⟩; refine ⟨_, rfl, ?_⟩))
  go_ret
  exact zH67
 replace c7 := Bool.eq_false_iff.mpr c7
 subst c7
 have H1 : (if a0 < a1 then (some (-1)) else (if a0 > a1 then (some 1) else (some 0))) = some r := by rw [if_neg (show ¬ (false = true) by decide)] at H; exact H
 clear H
 have H := H1
 clear H1
 by_cases c8 : a0 < a1
 ·rw [if_pos c8] at H
  have c8b0 := decide_eq_true c8
  clear c8
  obtain rfl := Option.some.inj H
  go_enter Try.func61, Try.ntmps61
  go_wp2_with (first | ((with_reducible refine gate_callee (f := 80) rfl ?_); refine goesL_ (some 8) rfl rfl Try.func80 zG75 rfl #[.int .i64 a0] rfl zG55 ?_; (with_reducible refine (cmp_isNaN_int.calls a0 false _ A3.out).mono ?_); rintro e w' ⟨rfl, ⟨nd, rfl⟩⟩; refine ⟨_, rfl, ?_⟩) | ((with_reducible refine gate_callee (f := 80) rfl ?_); refine goesL_ (some 10) rfl rfl Try.func80 zG75 rfl #[.int .i64 a1] rfl zG55 ?_; (with_reducible refine (cmp_isNaN_int.calls a1 false _ A4.out).mono ?_); rintro e w' ⟨rfl, ⟨nd, rfl⟩⟩; refine ⟨_, rfl, ?_⟩))
  go_ret
  exact zH67
 rw [if_neg c8] at H
 have c8b0 := decide_eq_false c8
 clear c8
 by_cases c9 : a0 > a1
 ·rw [if_pos c9] at H
  have c9b0 : decide (a1 < a0) = true := decide_eq_true c9
  clear c9
  obtain rfl := Option.some.inj H
  go_enter Try.func61, Try.ntmps61
  go_wp2_with (first | ((with_reducible refine gate_callee (f := 80) rfl ?_); refine goesL_ (some 8) rfl rfl Try.func80 zG75 rfl #[.int .i64 a0] rfl zG55 ?_; (with_reducible refine (cmp_isNaN_int.calls a0 false _ A3.out).mono ?_); rintro e w' ⟨rfl, ⟨nd, rfl⟩⟩; refine ⟨_, rfl, ?_⟩) | ((with_reducible refine gate_callee (f := 80) rfl ?_); refine goesL_ (some 10) rfl rfl Try.func80 zG75 rfl #[.int .i64 a1] rfl zG55 ?_; (with_reducible refine (cmp_isNaN_int.calls a1 false _ A4.out).mono ?_); rintro e w' ⟨rfl, ⟨nd, rfl⟩⟩; refine ⟨_, rfl, ?_⟩))
  go_ret
  exact zH67
 rw [if_neg c9] at H
 have c9b0 : decide (a1 < a0) = false := decide_eq_false c9
 clear c9
 obtain rfl := Option.some.inj H
 go_enter Try.func61, Try.ntmps61
 go_wp2_with (first | ((with_reducible refine gate_callee (f := 80) rfl ?_); refine goesL_ (some 8) rfl rfl Try.func80 zG75 rfl #[.int .i64 a0] rfl zG55 ?_; (with_reducible refine (cmp_isNaN_int.calls a0 false _ A3.out).mono ?_); rintro e w' ⟨rfl, ⟨nd, rfl⟩⟩; refine ⟨_, rfl, ?_⟩) | ((with_reducible refine gate_callee (f := 80) rfl ?_); refine goesL_ (some 10) rfl rfl Try.func80 zG75 rfl #[.int .i64 a1] rfl zG55 ?_; (with_reducible refine (cmp_isNaN_int.calls a1 false _ A4.out).mono ?_); rintro e w' ⟨rfl, ⟨nd, rfl⟩⟩; refine ⟨_, rfl, ?_⟩))
 go_ret
 exact zH67

/-! ### impl_compareEvents: function 47 -/
def impl_compareEvents.f (k : Nat) (a0_0 : Int) (a0_1 : Int) (a0_2 : Int) (a0_3 : Int) (a0_4 : ByteArray) (a0_5 : Int) (a1_0 : Int) (a1_1 : Int) (a1_2 : Int) (a1_3 : Int) (a1_4 : ByteArray) (a1_5 : Int) : Option (Int) := (cmp_Compare_int.f a0_2 a1_2).bind fun t123 => ((cmp_Compare_int.f a0_0 a1_0).bind fun t124 => ((cmp_Compare_int.f a0_1 a1_1).bind fun t125 => ((cmp_Or_int.f k (([t123, t124, t125] : List Int))).bind fun t129 => (some t129))))
theorem impl_compareEvents.mono : ∀ a0 a1 a2 a3 a4 a5 a6 a7 a8 a9 a10 a11 k, LeO (impl_compareEvents.f k a0 a1 a2 a3 a4 a5 a6 a7 a8 a9 a10 a11) (impl_compareEvents.f (k + 1) a0 a1 a2 a3 a4 a5 a6 a7 a8 a9 a10 a11) := by
 intro a0 a1 a2 a3 a4 a5 a6 a7 a8 a9 a10 a11 k
 unfold impl_compareEvents.f
 repeat' first
   | (with_reducible exact cmp_Or_int.mono _ _)
   | (with_reducible exact LeO.refl _)
   | (with_reducible exact LeO.none _)
   | (with_reducible refine LeO.ite ?_ ?_)
   | (with_reducible refine LeO.bind ?_ (fun _ => ?_))
   | exact cmp_Or_int.mono _ _
   | exact LeO.none _
   | refine LeO.ite ?_ ?_
   | refine LeO.bind ?_ (fun _ => ?_)
def impl_compareEvents.T1 : Bool × List (List Nat × List Nat) := (true, [([], []), ([0], [0]), ([], []), ([2], [2]), ([1, 3], [1, 3]), ([], []), ([5], [5]), ([], []), ([7], [7]), ([6, 8, 4], [6, 8]), ([], []), ([10], [10]), ([], []), ([12], [12]), ([11, 13, 9], [11, 13]), ([4, 9, 14], [4, 9, 14]), ([15, 14], [15]), ([16, 16, 0, 1, 2, 3, 4, 5, 6, 7, 8, 9, 10, 11, 12, 13, 14, 15, 16], [16])])
def impl_compareEvents.B1 : List Nat := [0, 1, 0, 4, 15, 0, 32, 0, 128, 511, 0, 1024, 0, 4096, 16383, 32767, 65535, 131071]
theorem impl_compareEvents.tab1 : rtab .any (opsOf Try.f47 1) = impl_compareEvents.T1 := by kernel_rfl
theorem impl_compareEvents.bits1 : waitsOk impl_compareEvents.T1.2 impl_compareEvents.B1 = true := by kernel_rfl
set_option maxHeartbeats 64000000 in
set_option maxRecDepth 100000 in
theorem impl_compareEvents.calls (k : Nat) (a0_0 : Int) (a0_1 : Int) (a0_2 : Int) (a0_3 : Int) (a0_4 : ByteArray) (a0_5 : Int) (a1_0 : Int) (a1_1 : Int) (a1_2 : Int) (a1_3 : Int) (a1_4 : ByteArray) (a1_5 : Int) (r : Int) (w : World) (h : impl_compareEvents.f k a0_0 a0_1 a0_2 a0_3 a0_4 a0_5 a1_0 a1_1 a1_2 a1_3 a1_4 a1_5 = some r) :
  Calls Try.prog 47 #[.agg #[.int .i64 a0_0, .int .i64 a0_1, .int .i64 a0_2, .int .i64 a0_3, .string a0_4, .int .i64 a0_5], .agg #[.int .i64 a1_0, .int .i64 a1_1, .int .i64 a1_2, .int .i64 a1_3, .string a1_4, .int .i64 a1_5]] w fun e w' => e = .returned (.int .i64 r) ∧ Below w.heap.size w w' := by
 have hu35 := Try.underlying35
 have HB := zb (Below.refl w.heap.size w)
 have H : ((cmp_Compare_int.f a0_2 a1_2).bind fun t123 => ((cmp_Compare_int.f a0_0 a1_0).bind fun t124 => ((cmp_Compare_int.f a0_1 a1_1).bind fun t125 => ((cmp_Or_int.f k (([t123, t124, t125] : List Int))).bind fun t129 => (some t129))))) = some r := h
 clear h
 replace H := Option.bind_eq_some_iff.mp H
 obtain ⟨t123, A30, H⟩ := H
 replace H : ((cmp_Compare_int.f a0_0 a1_0).bind fun t124 => ((cmp_Compare_int.f a0_1 a1_1).bind fun t125 => ((cmp_Or_int.f k (([t123, t124, t125] : List Int))).bind fun t129 => (some t129)))) = some r := H
 have A3 := zb A30
 clear A30
 replace H := Option.bind_eq_some_iff.mp H
 obtain ⟨t124, A40, H⟩ := H
 replace H : ((cmp_Compare_int.f a0_1 a1_1).bind fun t125 => ((cmp_Or_int.f k (([t123, t124, t125] : List Int))).bind fun t129 => (some t129))) = some r := H
 have A4 := zb A40
 clear A40
 replace H := Option.bind_eq_some_iff.mp H
 obtain ⟨t125, A50, H⟩ := H
 replace H : ((cmp_Or_int.f k (([t123, t124, t125] : List Int))).bind fun t129 => (some t129)) = some r := H
 have A5 := zb A50
 clear A50
 obtain ⟨y126, hy126⟩ : ∃ y_ : List Int, y_ = (([t123, t124, t125] : List Int)) := ⟨_, rfl⟩
 replace H : ((cmp_Or_int.f k y126).bind fun t129 => (some t129)) = some r := by first | (rw [hy126]; with_reducible exact H) | (have H2_ := (Option.bind_some _ _).symm.trans H; rw [hy126]; with_reducible exact H2_) | (have H2_ := (Option.bind_some _ _).symm.trans H; with_reducible exact H2_) | with_reducible exact H | (rw [hy126]; exact H) | exact H
 have Ny126 := zb hy126
 clear hy126
 replace H := Option.bind_eq_some_iff.mp H
 obtain ⟨t129, A60, H⟩ := H
 replace H : (some t129) = some r := H
 have A6 := zb A60
 clear A60
 obtain rfl := Option.some.inj H
 go_enter Try.func47, Try.ntmps47
 try go_wp2_with (first | ((with_reducible refine gate_dst (N := 2) rfl ?_); refine box_event ?hg (N := 2) ?hd (cs := #[.int .i64 a0_0, .int .i64 a0_1, .int .i64 a0_2, .int .i64 a0_3, .string a0_4, .int .i64 a0_5]) (t := 35) ?hr ?_; (case hd => rfl); (case hg => rfl); (case hr => exact zH101); intro gb121 hg w7 hbox hb; have n_ := zA_ (zb (zr zG61 hb)) (zA_ (zb (hbox)) (zA_ (zN1 w.heap.size hg (zq zG61)) (zN1 w.heap.size hg (zq zG61)))); clear HB; obtain ⟨HB, BK121, GW121, GE121⟩ := n_; clear hb hbox hg) | ((with_reducible refine gate_dst (N := 3) rfl ?_); refine box_event ?hg (N := 3) ?hd (cs := #[.int .i64 a1_0, .int .i64 a1_1, .int .i64 a1_2, .int .i64 a1_3, .string a1_4, .int .i64 a1_5]) (t := 35) ?hr ?_; (case hd => rfl); (case hg => rfl); (case hr => exact zH101); intro gb122 hg w8 hbox hb; have n_ := zA_ (zb (zt (g := gb121) (o := .cells #[.int .i64 a0_0, .int .i64 a0_1, .int .i64 a0_2, .int .i64 a0_3, .string a0_4, .int .i64 a0_5] 35 (0, 0)) zK157 hb)) (zA_ (zb (zr zK147 hb)) (zA_ (zb (hbox)) (zA_ (zN1 w.heap.size hg (zq zK147)) (zA_ (zN1 w.heap.size hg (zq zK147)) (zN2 hg (zaa (g := gb121) (o := .cells #[.int .i64 a0_0, .int .i64 a0_1, .int .i64 a0_2, .int .i64 a0_3, .string a0_4, .int .i64 a0_5] 35 (0, 0)) zK157)))))); clear BK121 HB; obtain ⟨BK121, HB, BK122, GW122, GE122, NB121_122, NB122_121⟩ := n_; clear hb hbox hg))
 obtain ⟨n0_, n1_, n2_⟩ := zD3 (zm BK121.out) (zm BK122.out) (ze HB.out)
 clear BK121 BK122 HB
 have BK121 := n0_
 have BK122 := n1_
 have HB := n2_
 clear n0_ n1_ n2_
 refine start_ (n := 18) (S := fun w' => w'.cell? ⟨gb121, 0, none⟩ = some (.int .i64 a0_0) ∧ w'.cell? ⟨gb121, 1, none⟩ = some (.int .i64 a0_1) ∧ w'.cell? ⟨gb121, 2, none⟩ = some (.int .i64 a0_2) ∧ w'.cell? ⟨gb121, 3, none⟩ = some (.int .i64 a0_3) ∧ w'.cell? ⟨gb121, 4, none⟩ = some (.string a0_4) ∧ w'.cell? ⟨gb121, 5, none⟩ = some (.int .i64 a0_5) ∧ w'.cell? ⟨gb122, 0, none⟩ = some (.int .i64 a1_0) ∧ w'.cell? ⟨gb122, 1, none⟩ = some (.int .i64 a1_1) ∧ w'.cell? ⟨gb122, 2, none⟩ = some (.int .i64 a1_2) ∧ w'.cell? ⟨gb122, 3, none⟩ = some (.int .i64 a1_3) ∧ w'.cell? ⟨gb122, 4, none⟩ = some (.string a1_4) ∧ w'.cell? ⟨gb122, 5, none⟩ = some (.int .i64 a1_5)) (ds := []) #[false, false, false, false, false, false, false, false, false, false, false, false, false, false, false, false, false, false] zG75 rfl rfl ⟨(q3a BK121.out 0).trans rfl, (q3a BK121.out 1).trans rfl, (q3a BK121.out 2).trans rfl, (q3a BK121.out 3).trans rfl, (q3a BK121.out 4).trans rfl, (q3a BK121.out 5).trans rfl, (q3a BK122.out 0).trans rfl, (q3a BK122.out 1).trans rfl, (q3a BK122.out 2).trans rfl, (q3a BK122.out 3).trans rfl, (q3a BK122.out 4).trans rfl, (q3a BK122.out 5).trans rfl⟩ (fun hHeld => ?_); refine with_tabW impl_compareEvents.tab1 impl_compareEvents.bits1 (fun HT_ HW_ => ?_)
 generalize w8.drew = w9 at BK121 BK122 HB hHeld ⊢
 refine zP 0 5 #[true, false, false, false, false, false, false, false, false, false, false, false, false, false, false, false, false, false] HT_ ?_
 refine zP 2 7 #[true, false, true, false, false, false, false, false, false, false, false, false, false, false, false, false, false, false] HT_ ?_
 refine zP 5 10 #[true, false, true, false, false, true, false, false, false, false, false, false, false, false, false, false, false, false] HT_ ?_
 refine zP 7 12 #[true, false, true, false, false, true, false, true, false, false, false, false, false, false, false, false, false, false] HT_ ?_
 refine zP 10 15 #[true, false, true, false, false, true, false, true, false, false, true, false, false, false, false, false, false, false] HT_ ?_
 refine zP 12 17 #[true, false, true, false, false, true, false, true, false, false, true, false, true, false, false, false, false, false] HT_ ?_
 refine zQ 1 6 #[true, true, true, false, false, true, false, true, false, false, true, false, true, false, false, false, false, false] HT_ HW_ hHeld ?_
 refine zQ 3 8 #[true, true, true, true, false, true, false, true, false, false, true, false, true, false, false, false, false, false] HT_ HW_ hHeld ?_
 refine zQ 6 11 #[true, true, true, true, false, true, true, true, false, false, true, false, true, false, false, false, false, false] HT_ HW_ hHeld ?_
 refine zQ 8 13 #[true, true, true, true, false, true, true, true, true, false, true, false, true, false, false, false, false, false] HT_ HW_ hHeld ?_
 refine zQ 11 16 #[true, true, true, true, false, true, true, true, true, false, true, true, true, false, false, false, false, false] HT_ HW_ hHeld ?_
 refine zQ 13 18 #[true, true, true, true, false, true, true, true, true, false, true, true, true, true, false, false, false, false] HT_ HW_ hHeld ?_
 refine one_ (i := 4) (N := some 9) #[true, true, true, true, true, true, true, true, true, false, true, true, true, true, false, false, false, false] rfl rfl (one_of HT_.out zG75) zG76 (fun K hK => ?_)
 refine goes_ Try.func61 zG75 rfl #[.int .i64 a0_2, .int .i64 a1_2] (by rfl) rfl rfl zG55 ?_
 with_reducible refine (cmp_Compare_int.calls a0_2 a1_2 t123 _ A3.out).mono ?_
 rintro e w' ⟨rfl, ⟨nd, rfl⟩⟩
 refine ⟨_, rfl, ?_⟩
 refine hK.out _ _ ⟨(q3a BK121.out 0).trans rfl, (q3a BK121.out 1).trans rfl, (q3a BK121.out 2).trans rfl, (q3a BK121.out 3).trans rfl, (q3a BK121.out 4).trans rfl, (q3a BK121.out 5).trans rfl, (q3a BK122.out 0).trans rfl, (q3a BK122.out 1).trans rfl, (q3a BK122.out 2).trans rfl, (q3a BK122.out 3).trans rfl, (q3a BK122.out 4).trans rfl, (q3a BK122.out 5).trans rfl⟩ (fun hHeld => ?_)
 clear hK K
 refine norm_ (a' := ?_) ?_ ?_
 rotate_left
 ·show Act.put _ (some 9) _ = _
  simp only [Act.put, List.setIfInBounds_toArray, List.set_cons_zero, List.set_cons_succ, i64_w, i32_w]
  rfl
 refine one_ (i := 9) (N := some 14) #[true, true, true, true, true, true, true, true, true, true, true, true, true, true, false, false, false, false] rfl rfl (one_of HT_.out zG75) zG76 (fun K hK => ?_)
 refine goes_ Try.func61 zG75 rfl #[.int .i64 a0_0, .int .i64 a1_0] (by rfl) rfl rfl zG55 ?_
 with_reducible refine (cmp_Compare_int.calls a0_0 a1_0 t124 _ A4.out).mono ?_
 rintro e w' ⟨rfl, ⟨nd, rfl⟩⟩
 refine ⟨_, rfl, ?_⟩
 refine hK.out _ _ ⟨(q3a BK121.out 0).trans rfl, (q3a BK121.out 1).trans rfl, (q3a BK121.out 2).trans rfl, (q3a BK121.out 3).trans rfl, (q3a BK121.out 4).trans rfl, (q3a BK121.out 5).trans rfl, (q3a BK122.out 0).trans rfl, (q3a BK122.out 1).trans rfl, (q3a BK122.out 2).trans rfl, (q3a BK122.out 3).trans rfl, (q3a BK122.out 4).trans rfl, (q3a BK122.out 5).trans rfl⟩ (fun hHeld => ?_)
 clear hK K
 refine norm_ (a' := ?_) ?_ ?_
 rotate_left
 ·show Act.put _ (some 14) _ = _
  simp only [Act.put, List.setIfInBounds_toArray, List.set_cons_zero, List.set_cons_succ, i64_w, i32_w]
  rfl
 refine one_ (i := 14) (N := some 19) #[true, true, true, true, true, true, true, true, true, true, true, true, true, true, true, false, false, false] rfl rfl (one_of HT_.out zG75) zG76 (fun K hK => ?_)
 refine goes_ Try.func61 zG75 rfl #[.int .i64 a0_1, .int .i64 a1_1] (by rfl) rfl rfl zG55 ?_
 with_reducible refine (cmp_Compare_int.calls a0_1 a1_1 t125 _ A5.out).mono ?_
 rintro e w' ⟨rfl, ⟨nd, rfl⟩⟩
 refine ⟨_, rfl, ?_⟩
 refine hK.out _ _ ⟨(q3a BK121.out 0).trans rfl, (q3a BK121.out 1).trans rfl, (q3a BK121.out 2).trans rfl, (q3a BK121.out 3).trans rfl, (q3a BK121.out 4).trans rfl, (q3a BK121.out 5).trans rfl, (q3a BK122.out 0).trans rfl, (q3a BK122.out 1).trans rfl, (q3a BK122.out 2).trans rfl, (q3a BK122.out 3).trans rfl, (q3a BK122.out 4).trans rfl, (q3a BK122.out 5).trans rfl⟩ (fun hHeld => ?_)
 clear hK K
 refine norm_ (a' := ?_) ?_ ?_
 rotate_left
 ·show Act.put _ (some 19) _ = _
  simp only [Act.put, List.setIfInBounds_toArray, List.set_cons_zero, List.set_cons_succ, i64_w, i32_w]
  rfl
 refine one_ (i := 15) (N := some 20) #[true, true, true, true, true, true, true, true, true, true, true, true, true, true, true, true, false, false] rfl rfl (one_of HT_.out zG75) zG76 (fun K hK => ?_)
 refine Kd.R_lit_step (Kd.int .i64) _ 3 ?hg (N := 20) ?hd (xs := ([t123, t124, t125] : List Int)) (inner := [.int .i64 t123, .int .i64 t124, .int .i64 t125]) (ok := fun _ => True) (okp := fun _ => True) ?hr ?hp (fun _ hk => hk) trivial (Below.refl _ _) (Nat.le_refl _) (by simp) ?_; (case hd => rfl); (case hg => rfl); (case hr => exact zH101); (case hp => exact (Reps.one (show Kd.M (Kd.int .i64) _ _ _ t123 [.int .i64 t123] from rfl) (Reps.one (show Kd.M (Kd.int .i64) _ _ _ t124 [.int .i64 t124] from rfl) (Reps.one (show Kd.M (Kd.int .i64) _ _ _ t125 [.int .i64 t125] from rfl) (Reps.none _ _)))))
 intro v127 w10 ho11 hb hg_ hnew_
 clear hg_ hnew_
 (first | rw [← Ny126.out] at ho11 | (simp only [Int.reduceToNat] at ho11; rw [← Ny126.out] at ho11))
 obtain ⟨n0_, n1_, n2_, n3_⟩ := zD4 (zah ho11 (zq zK143)) (zt (g := gb121) (o := .cells #[.int .i64 a0_0, .int .i64 a0_1, .int .i64 a0_2, .int .i64 a0_3, .string a0_4, .int .i64 a0_5] 35 (0, 0)) zK157 hb) (zt (g := gb122) (o := .cells #[.int .i64 a1_0, .int .i64 a1_1, .int .i64 a1_2, .int .i64 a1_3, .string a1_4, .int .i64 a1_5] 35 (0, 0)) (by (with_reducible repeat (first | refine zh ?_ _ | refine zm ?_ | refine zi ?_ _)); exact BK122.out) hb) (zr zK143 hb)
 clear BK121 BK122 HB
 have HO128 := n0_
 have BK121 := n1_
 have BK122 := n2_
 have HB := n3_
 clear n0_ n1_ n2_ n3_
 clear hb ho11
 obtain ⟨Ao12, co12, eo12⟩ := zy HO128.out
 (first | subst eo12 | (injection eo12 with f1_ f2_ f3_; have f4_ := f1_.symm; have f5_ := f3_.symm; clear f1_ f2_ f3_; subst f4_; subst f5_))
 refine hK.out _ _ ⟨(q3a BK121.out 0).trans rfl, (q3a BK121.out 1).trans rfl, (q3a BK121.out 2).trans rfl, (q3a BK121.out 3).trans rfl, (q3a BK121.out 4).trans rfl, (q3a BK121.out 5).trans rfl, (q3a BK122.out 0).trans rfl, (q3a BK122.out 1).trans rfl, (q3a BK122.out 2).trans rfl, (q3a BK122.out 3).trans rfl, (q3a BK122.out 4).trans rfl, (q3a BK122.out 5).trans rfl⟩ (fun hHeld => ?_)
 clear hK K
 refine norm_ (a' := ?_) ?_ ?_
 rotate_left
 ·show Act.put _ (some 20) _ = _
  simp only [Act.put, List.setIfInBounds_toArray, List.set_cons_zero, List.set_cons_succ, i64_w, i32_w]
  rfl
 refine one_ (i := 16) (N := some 21) #[true, true, true, true, true, true, true, true, true, true, true, true, true, true, true, true, true, false] rfl rfl (one_of HT_.out zG75) zG76 (fun K hK => ?_)
 refine goes_ Try.func60 zG75 rfl #[.slice Ao12 y126.length co12] (by rfl) rfl rfl zG55 ?_
 with_reducible refine (cmp_Or_int.calls k _ _ y126 t129 _ ?side1 ?side2 A6.out).mono ?_
 (case side1 => repeat (first | exact (Kd.R_reads' HO128.out).2.2 | (with_reducible refine zu ?_ _) | (with_reducible refine zv ?_ _) | (with_reducible refine zw ?_)))
 (case side2 => exact (Kd.R_reads' HO128.out).2.1)
 rintro e w' ⟨rfl, ⟨nd, rfl⟩⟩
 refine ⟨_, rfl, ?_⟩
 refine hK.out _ _ ⟨(q3a BK121.out 0).trans rfl, (q3a BK121.out 1).trans rfl, (q3a BK121.out 2).trans rfl, (q3a BK121.out 3).trans rfl, (q3a BK121.out 4).trans rfl, (q3a BK121.out 5).trans rfl, (q3a BK122.out 0).trans rfl, (q3a BK122.out 1).trans rfl, (q3a BK122.out 2).trans rfl, (q3a BK122.out 3).trans rfl, (q3a BK122.out 4).trans rfl, (q3a BK122.out 5).trans rfl⟩ (fun hHeld => ?_)
 clear hK K
 refine norm_ (a' := ?_) ?_ ?_
 rotate_left
 ·show Act.put _ (some 21) _ = _
  simp only [Act.put, List.setIfInBounds_toArray, List.set_cons_zero, List.set_cons_succ, i64_w, i32_w]
  rfl
 refine zP 17 4 #[true, true, true, true, true, true, true, true, true, true, true, true, true, true, true, true, true, true] HT_ ?_
 refine done_ (done_of HT_.out zG75) ?_
 try go_wp2
 go_ret
 exact ⟨zH87, by repeat (first | (with_reducible first | exact HB.out | apply zf | apply zc | apply ze | refine zg ?_ GE121.out | refine zg ?_ GE122.out) | exact HB.out)⟩

end Go.Proofs.Ytoibmbkmpadmnaa.G
