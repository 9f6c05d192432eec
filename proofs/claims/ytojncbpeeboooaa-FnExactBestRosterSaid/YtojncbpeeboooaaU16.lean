-- squeezed
-- made by pp.py (wip/tools) out of the translation; Lean checks it
import Derived.Test.YtojncbpeeboooaaU0
import Derived.Test.YtojncbpeeboooaaU15
namespace Go.Proofs.Ytojncbpeeboooaa.U
open Go.RowKit Go.Proofs.YtojncbpeeboooaaW.PrintWords Go.Proofs.YtojncbpeeboooaaW.PrintLast Go.Proofs.YtojncbpeeboooaaW.PrintMore
attribute [local go_sem] max2_int min2_int max_two min_two max_three min_three max_four min_four   -- for this text's walks alone
set_option linter.unusedVariables false
set_option linter.unusedSimpArgs false

abbrev b16A0 := zM 10 0
abbrev b16A1 := zM 10 1
abbrev b16A2 := zM 10 3
abbrev b16A3 := zM 10 7
abbrev b16A4 := zM 10 23
abbrev b16A5 := zM 10 55
abbrev b16A6 := zM 10 119
abbrev b16A7 := zM 10 127
abbrev b16A8 := zM 10 255
abbrev b16A9 := zM 10 511
abbrev b16A10 := zM 10 1023
/-! ### laws_eqShiftS: function 49 -/
def laws_eqShiftS.l0 : Nat → List (S139) → List (S139) → Int → Option (Bool)
 | 0, _, _, _ => none
 | k + 1, x0, x1, x5 => if x5 < (x0.length : Int) then (if 0 ≤ x5 then (if x5 < (x1.length : Int) then ((laws_eqShift.f ((rd_T139 x0 x5).f0) ((rd_T139 x0 x5).f1) ((rd_T139 x0 x5).f2) ((rd_T139 x1 x5).f0) ((rd_T139 x1 x5).f1) ((rd_T139 x1 x5).f2)).bind fun t305 => (if t305 = true then (laws_eqShiftS.l0 k x0 x1 (wrap64 (x5 + 1))) else (some false))) else (none)) else (none)) else (some true)
def laws_eqShiftS.f (k : Nat) (l0 : List (S139)) (l1 : List (S139)) : Option (Bool) := if (l0.length : Int) = (l1.length : Int) then (laws_eqShiftS.l0 k l0 l1 0) else (some false)
theorem laws_eqShiftS.mono_l : ∀ k, (∀ y0 y1 y2, LeO (laws_eqShiftS.l0 k y0 y1 y2) (laws_eqShiftS.l0 (k + 1) y0 y1 y2))
 | 0 => fun _ _ _ r h => by simp [laws_eqShiftS.l0] at h
 | k + 1 => by
  have ih0 := laws_eqShiftS.mono_l k
  ·intro y0 y1 y2
   unfold laws_eqShiftS.l0
   repeat' first
   | (with_reducible exact ih0 _ _ _)
   | (with_reducible exact LeO.refl _)
   | (with_reducible exact LeO.none _)
   | (with_reducible refine LeO.ite ?_ ?_)
   | (with_reducible refine LeO.bind ?_ (fun _ => ?_))
   | exact ih0 _ _ _
   | exact LeO.none _
   | refine LeO.ite ?_ ?_
   | refine LeO.bind ?_ (fun _ => ?_)
theorem laws_eqShiftS.mono : ∀ a0 a1 k, LeO (laws_eqShiftS.f k a0 a1) (laws_eqShiftS.f (k + 1) a0 a1) := by
 intro a0 a1 k
 have ih0 := laws_eqShiftS.mono_l k
 unfold laws_eqShiftS.f
 repeat' first
   | (with_reducible exact ih0 _ _ _)
   | (with_reducible exact LeO.refl _)
   | (with_reducible exact LeO.none _)
   | (with_reducible refine LeO.ite ?_ ?_)
   | (with_reducible refine LeO.bind ?_ (fun _ => ?_))
   | exact ih0 _ _ _
   | exact LeO.none _
   | refine LeO.ite ?_ ?_
   | refine LeO.bind ?_ (fun _ => ?_)
def laws_eqShiftS.T6 : Bool × List (List Nat × List Nat) := (true, [([], []), ([], []), ([0, 1], [0, 1]), ([2], [2]), ([], []), ([], []), ([4, 5], [4, 5]), ([6], [6]), ([3, 7], [3, 7]), ([8], [8])])
def laws_eqShiftS.B6 : List Nat := [0, 0, 3, 7, 0, 0, 48, 112, 255, 511]
theorem laws_eqShiftS.tab6 : rtab .any (opsOf Try.f49 6) = laws_eqShiftS.T6 := by kernel_rfl
theorem laws_eqShiftS.bits6 : waitsOk laws_eqShiftS.T6.2 laws_eqShiftS.B6 = true := by kernel_rfl
set_option maxHeartbeats 64000000 in
set_option maxRecDepth 100000 in
theorem laws_eqShiftS.calls (k : Nat) (A0 : Option Addr) (c0 : Nat) (l0 : List (S139)) (A1 : Option Addr) (c1 : Nat) (l1 : List (S139)) (r : Bool) (w : World) (hr0 : Kd.C k139 w A0 l0.length l0) (hc0 : l0.length ≤ c0) (hr1 : Kd.C k139 w A1 l1.length l1) (hc1 : l1.length ≤ c1) (h : laws_eqShiftS.f k l0 l1 = some r) :
  Calls Try.prog 49 #[.slice A0 l0.length c0, .slice A1 l1.length c1] w fun e w' => e = .returned (.bool r) ∧ Below w.heap.size w w' := by
 have hu139 := Try.underlying139
 obtain ⟨HR0, HC0, HR1, HC1, HB⟩ := zD5 hr0 hc0 hr1 hc1 (Below.refl w.heap.size w)
 clear hr0 hc0 hr1 hc1
 have H : (if (l0.length : Int) = (l1.length : Int) then (laws_eqShiftS.l0 k l0 l1 0) else (some false)) = some r := h
 clear h
 by_cases c3 : (l0.length : Int) = (l1.length : Int)
 rotate_left
 ·rw [if_neg c3] at H
  have c3b0 : ((l0.length : Int) == (l1.length : Int)) = false := beq_eq_false_iff_ne.mpr c3
  have c3b1 : ((l0.length : Int) != (l1.length : Int)) = true := bne_iff_ne.mpr c3
  have c3b2 : (l0.length == l1.length) = false := by first | simpa using c3 | (simp at c3 ⊢; omega)
  obtain rfl := Option.some.inj H
  go_enter Try.func49, Try.ntmps49
  go_wp2
  go_ret
  exact zH34

 rw [if_pos c3] at H
 have c3b0 : ((l0.length : Int) == (l1.length : Int)) = true := beq_iff_eq.mpr c3
 have c3b1 : ((l0.length : Int) != (l1.length : Int)) = false := bne_eq_false_iff_eq.mpr c3
 have c3b2 : (l0.length == l1.length) = true := by first | simpa using c3 | (simp at c3 ⊢; omega)
 clear c3
 have H' := zb H
 clear H
 go_enter Try.func49, Try.ntmps49
 go_wp2
 go_loopg [5] k (fun kq v5 w' => ∃ (x5_1 : Int), v5 = .int .i64 x5_1 ∧ Aside0 (laws_eqShiftS.l0 kq l0 l1 x5_1 = some r) ∧ Aside0 (kq ≤ k) ∧ Aside0 (Below w.heap.size w w'))
 case atStart => exact ⟨(0), zG100, H', ⟨Nat.le_refl _⟩, ⟨zH91⟩⟩
 case round =>
  clear H'
  try clear c1
  try clear c3
  try clear c3b0
  try clear c3b1
  try clear c3b2
  obtain ⟨x5_1, rfl, HA, HK1, HB⟩ := hrel
  cases gk with
  | zero => exact absurd HA.out (by simp [laws_eqShiftS.l0])
  | succ k1 =>
   have H := HA.out
   clear HA
   simp only [laws_eqShiftS.l0] at H
   by_cases c4 : x5_1 < (l0.length : Int)
   rotate_left
   ·rw [if_neg c4] at H
    have c4b0 := decide_eq_false c4
    clear c4
    obtain rfl := Option.some.inj H
    go_wp2
    go_ret
    exact zH34
   rw [if_pos c4] at H
   have c4b0 := decide_eq_true c4
   clear c4
   by_cases c5 : 0 ≤ x5_1
   rotate_left
   ·rw [if_neg c5] at H
    exact absurd H (by simp)
   rw [if_pos c5] at H
   have c5b0 := decide_eq_true c5
   clear c5
   by_cases c6 : x5_1 < (l1.length : Int)
   rotate_left
   ·rw [if_neg c6] at H
    exact absurd H (by simp)
   rw [if_pos c6] at H
   have c6b0 := decide_eq_true c6
   clear c6
   replace H := Option.bind_eq_some_iff.mp H
   obtain ⟨t305, A70, H⟩ := H
   replace H : (if t305 = true then (laws_eqShiftS.l0 k1 l0 l1 (wrap64 (x5_1 + 1))) else (some false)) = some r := H
   have A7 := zb A70
   clear A70
   by_cases c8 : t305 = true
   rotate_left
   ·replace c8 := Bool.eq_false_iff.mpr c8
    subst c8
    have H1 : (some false) = some r := by rw [if_neg (show ¬ (false = true) by decide)] at H; exact H
    clear H
    have H := H1
    clear H1
    obtain rfl := Option.some.inj H
    try go_wp2
    have n0_ := zb (zd HB.out)
    clear HB
    have HB := n0_
    clear n0_
    have p303 : 0 ≤ (x5_1 : Int) := zO
    have q303 : x5_1 < (l0.length : Int) := zO
    obtain ⟨ad303, e303, hx303_0, hx303_1, hx303_2⟩ := at_T139 HR0.out x5_1 p303 q303
    have hw303_2 := hx303_2
    have hw303_1 := hx303_1
    have hw303_0 := hx303_0
    cases e303
    replace hx303_0 := (HB.out.cell (za w _ hx303_0)).trans hx303_0
    replace hx303_1 := (HB.out.cell (za w _ hx303_1)).trans hx303_1
    replace hx303_2 := (HB.out.cell (za w _ hx303_2)).trans hx303_2
    replace p303 := eq_true p303
    replace q303 := eq_true q303
    have p304 : 0 ≤ (x5_1 : Int) := zO
    have q304 : x5_1 < (l1.length : Int) := zO
    obtain ⟨ad304, e304, hx304_0, hx304_1, hx304_2⟩ := at_T139 HR1.out x5_1 p304 q304
    have hw304_2 := hx304_2
    have hw304_1 := hx304_1
    have hw304_0 := hx304_0
    cases e304
    replace hx304_0 := (HB.out.cell (za w _ hx304_0)).trans hx304_0
    replace hx304_1 := (HB.out.cell (za w _ hx304_1)).trans hx304_1
    replace hx304_2 := (HB.out.cell (za w _ hx304_2)).trans hx304_2
    replace p304 := eq_true p304
    replace q304 := eq_true q304
    refine start_ (n := 10) (S := fun w' => w'.cell? (ad303.add ((x5_1).toNat * 3)) = some (.int .i64 ((rd_T139 l0 x5_1).f0)) ∧ w'.cell? ⟨(ad303.add ((x5_1).toNat * 3)).block, (ad303.add ((x5_1).toNat * 3)).off + 1, none⟩ = some (.int .i64 ((rd_T139 l0 x5_1).f1)) ∧ w'.cell? ⟨(ad303.add ((x5_1).toNat * 3)).block, (ad303.add ((x5_1).toNat * 3)).off + 2, none⟩ = some (.string ((rd_T139 l0 x5_1).f2)) ∧ w'.cell? (ad304.add ((x5_1).toNat * 3)) = some (.int .i64 ((rd_T139 l1 x5_1).f0)) ∧ w'.cell? ⟨(ad304.add ((x5_1).toNat * 3)).block, (ad304.add ((x5_1).toNat * 3)).off + 1, none⟩ = some (.int .i64 ((rd_T139 l1 x5_1).f1)) ∧ w'.cell? ⟨(ad304.add ((x5_1).toNat * 3)).block, (ad304.add ((x5_1).toNat * 3)).off + 2, none⟩ = some (.string ((rd_T139 l1 x5_1).f2))) (ds := []) b16A0 zG101 rfl rfl ⟨((HB.out.cell (za w _ hw303_0)).trans hw303_0), ((HB.out.cell (za w _ hw303_1)).trans hw303_1), ((HB.out.cell (za w _ hw303_2)).trans hw303_2), ((HB.out.cell (za w _ hw304_0)).trans hw304_0), ((HB.out.cell (za w _ hw304_1)).trans hw304_1), ((HB.out.cell (za w _ hw304_2)).trans hw304_2)⟩ (fun hHeld => ?_); refine with_tabW laws_eqShiftS.tab6 laws_eqShiftS.bits6 (fun HT_ HW_ => ?_)
    generalize wr.drew = w11 at HB hx303_0 hx303_1 hx303_2 hx304_0 hx304_1 hx304_2 hHeld ⊢
    refine zP 0 17 b16A1 HT_ ?_
    refine zP 1 18 b16A2 HT_ ?_
    refine zP 2 19 b16A3 HT_ ?_
    refine zP 4 21 b16A4 HT_ ?_
    refine zP 5 22 b16A5 HT_ ?_
    refine zP 6 23 b16A6 HT_ ?_
    refine zQ 3 20 b16A7 HT_ HW_ hHeld ?_
    refine zQ 7 24 b16A8 HT_ HW_ hHeld ?_
    refine one_ (i := 8) (N := some 25) b16A9 rfl rfl (one_of HT_.out zG101) (by decide) (fun K hK => ?_)
    refine goes_ Try.func113 zG101 rfl #[.agg #[.int .i64 ((rd_T139 l0 x5_1).f0), .int .i64 ((rd_T139 l0 x5_1).f1), .string ((rd_T139 l0 x5_1).f2)], .agg #[.int .i64 ((rd_T139 l1 x5_1).f0), .int .i64 ((rd_T139 l1 x5_1).f1), .string ((rd_T139 l1 x5_1).f2)]] (by rfl) rfl rfl zG67 ?_
    with_reducible refine (laws_eqShift.calls ((rd_T139 l0 x5_1).f0) ((rd_T139 l0 x5_1).f1) ((rd_T139 l0 x5_1).f2) ((rd_T139 l1 x5_1).f0) ((rd_T139 l1 x5_1).f1) ((rd_T139 l1 x5_1).f2) false _ A7.out).mono ?_
    rintro e w12 ⟨rfl, hb⟩
    refine ⟨_, rfl, ?_⟩
    have n0_ := zb (zp zG77 hb)
    clear HB
    have HB := n0_
    clear n0_
    (try clear hb)
    (try clear hb2)
    (try clear hk)
    (try clear hi)
    refine hK.out _ _ ⟨((HB.out.cell (za w _ hw303_0)).trans hw303_0), ((HB.out.cell (za w _ hw303_1)).trans hw303_1), ((HB.out.cell (za w _ hw303_2)).trans hw303_2), ((HB.out.cell (za w _ hw304_0)).trans hw304_0), ((HB.out.cell (za w _ hw304_1)).trans hw304_1), ((HB.out.cell (za w _ hw304_2)).trans hw304_2)⟩ (fun hHeld => ?_)
    clear hK K
    refine norm_ (a' := ?_) ?_ ?_
    rotate_left
    ·show Act.put _ (some 25) _ = _
     simp only [Act.put, List.setIfInBounds_toArray, List.set_cons_zero, List.set_cons_succ, i64_w, i32_w]
     rfl
    refine zP 9 26 b16A10 HT_ ?_
    refine done_ (done_of HT_.out zG101) ?_
    try go_wp2
    go_ret
    exact zH34
   subst c8
   have H1 : (laws_eqShiftS.l0 k1 l0 l1 (wrap64 (x5_1 + 1))) = some r := by rw [if_pos rfl] at H; exact H
   clear H
   have H := H1
   clear H1
   have H' := zb H
   clear H
   try go_wp2
   have n0_ := zb (zd HB.out)
   clear HB
   have HB := n0_
   clear n0_
   have p303 : 0 ≤ (x5_1 : Int) := zO
   have q303 : x5_1 < (l0.length : Int) := zO
   obtain ⟨ad303, e303, hx303_0, hx303_1, hx303_2⟩ := at_T139 HR0.out x5_1 p303 q303
   have hw303_2 := hx303_2
   have hw303_1 := hx303_1
   have hw303_0 := hx303_0
   cases e303
   replace hx303_0 := (HB.out.cell (za w _ hx303_0)).trans hx303_0
   replace hx303_1 := (HB.out.cell (za w _ hx303_1)).trans hx303_1
   replace hx303_2 := (HB.out.cell (za w _ hx303_2)).trans hx303_2
   replace p303 := eq_true p303
   replace q303 := eq_true q303
   have p304 : 0 ≤ (x5_1 : Int) := zO
   have q304 : x5_1 < (l1.length : Int) := zO
   obtain ⟨ad304, e304, hx304_0, hx304_1, hx304_2⟩ := at_T139 HR1.out x5_1 p304 q304
   have hw304_2 := hx304_2
   have hw304_1 := hx304_1
   have hw304_0 := hx304_0
   cases e304
   replace hx304_0 := (HB.out.cell (za w _ hx304_0)).trans hx304_0
   replace hx304_1 := (HB.out.cell (za w _ hx304_1)).trans hx304_1
   replace hx304_2 := (HB.out.cell (za w _ hx304_2)).trans hx304_2
   replace p304 := eq_true p304
   replace q304 := eq_true q304
   refine start_ (n := 10) (S := fun w' => w'.cell? (ad303.add ((x5_1).toNat * 3)) = some (.int .i64 ((rd_T139 l0 x5_1).f0)) ∧ w'.cell? ⟨(ad303.add ((x5_1).toNat * 3)).block, (ad303.add ((x5_1).toNat * 3)).off + 1, none⟩ = some (.int .i64 ((rd_T139 l0 x5_1).f1)) ∧ w'.cell? ⟨(ad303.add ((x5_1).toNat * 3)).block, (ad303.add ((x5_1).toNat * 3)).off + 2, none⟩ = some (.string ((rd_T139 l0 x5_1).f2)) ∧ w'.cell? (ad304.add ((x5_1).toNat * 3)) = some (.int .i64 ((rd_T139 l1 x5_1).f0)) ∧ w'.cell? ⟨(ad304.add ((x5_1).toNat * 3)).block, (ad304.add ((x5_1).toNat * 3)).off + 1, none⟩ = some (.int .i64 ((rd_T139 l1 x5_1).f1)) ∧ w'.cell? ⟨(ad304.add ((x5_1).toNat * 3)).block, (ad304.add ((x5_1).toNat * 3)).off + 2, none⟩ = some (.string ((rd_T139 l1 x5_1).f2))) (ds := []) b16A0 zG101 rfl rfl ⟨((HB.out.cell (za w _ hw303_0)).trans hw303_0), ((HB.out.cell (za w _ hw303_1)).trans hw303_1), ((HB.out.cell (za w _ hw303_2)).trans hw303_2), ((HB.out.cell (za w _ hw304_0)).trans hw304_0), ((HB.out.cell (za w _ hw304_1)).trans hw304_1), ((HB.out.cell (za w _ hw304_2)).trans hw304_2)⟩ (fun hHeld => ?_); refine with_tabW laws_eqShiftS.tab6 laws_eqShiftS.bits6 (fun HT_ HW_ => ?_)
   generalize wr.drew = w9 at HB hx303_0 hx303_1 hx303_2 hx304_0 hx304_1 hx304_2 hHeld ⊢
   refine zP 0 17 b16A1 HT_ ?_
   refine zP 1 18 b16A2 HT_ ?_
   refine zP 2 19 b16A3 HT_ ?_
   refine zP 4 21 b16A4 HT_ ?_
   refine zP 5 22 b16A5 HT_ ?_
   refine zP 6 23 b16A6 HT_ ?_
   refine zQ 3 20 b16A7 HT_ HW_ hHeld ?_
   refine zQ 7 24 b16A8 HT_ HW_ hHeld ?_
   refine one_ (i := 8) (N := some 25) b16A9 rfl rfl (one_of HT_.out zG101) (by decide) (fun K hK => ?_)
   refine goes_ Try.func113 zG101 rfl #[.agg #[.int .i64 ((rd_T139 l0 x5_1).f0), .int .i64 ((rd_T139 l0 x5_1).f1), .string ((rd_T139 l0 x5_1).f2)], .agg #[.int .i64 ((rd_T139 l1 x5_1).f0), .int .i64 ((rd_T139 l1 x5_1).f1), .string ((rd_T139 l1 x5_1).f2)]] (by rfl) rfl rfl zG67 ?_
   with_reducible refine (laws_eqShift.calls ((rd_T139 l0 x5_1).f0) ((rd_T139 l0 x5_1).f1) ((rd_T139 l0 x5_1).f2) ((rd_T139 l1 x5_1).f0) ((rd_T139 l1 x5_1).f1) ((rd_T139 l1 x5_1).f2) true _ A7.out).mono ?_
   rintro e w10 ⟨rfl, hb⟩
   refine ⟨_, rfl, ?_⟩
   have n0_ := zb (zp zG77 hb)
   clear HB
   have HB := n0_
   clear n0_
   (try clear hb)
   (try clear hb2)
   (try clear hk)
   (try clear hi)
   refine hK.out _ _ ⟨((HB.out.cell (za w _ hw303_0)).trans hw303_0), ((HB.out.cell (za w _ hw303_1)).trans hw303_1), ((HB.out.cell (za w _ hw303_2)).trans hw303_2), ((HB.out.cell (za w _ hw304_0)).trans hw304_0), ((HB.out.cell (za w _ hw304_1)).trans hw304_1), ((HB.out.cell (za w _ hw304_2)).trans hw304_2)⟩ (fun hHeld => ?_)
   clear hK K
   refine norm_ (a' := ?_) ?_ ?_
   rotate_left
   ·show Act.put _ (some 25) _ = _
    simp only [Act.put, List.setIfInBounds_toArray, List.set_cons_zero, List.set_cons_succ, i64_w, i32_w]
    rfl
   refine zP 9 26 b16A10 HT_ ?_
   refine done_ (done_of HT_.out zG101) ?_
   try go_wp2
   go_roundg k1
   case measure => have := HK1.out; omega
   case rel => exact ⟨(wrap64 (x5_1 + 1)), zG100, H', ⟨zH120⟩, ⟨zH91⟩⟩
/-! ### laws_eqStringS: function 143 -/
def laws_eqStringS.l0 : Nat → List ByteArray → List ByteArray → Int → Option (Bool)
 | 0, _, _, _ => none
 | k + 1, x0, x1, x5 => if x5 < (x0.length : Int) then (if 0 ≤ x5 then (if x5 < (x1.length : Int) then (if (rdOf ByteArray.empty x0 x5).toList = (rdOf ByteArray.empty x1 x5).toList then (laws_eqStringS.l0 k x0 x1 (wrap64 (x5 + 1))) else (some false)) else (none)) else (none)) else (some true)
def laws_eqStringS.f (k : Nat) (l0 : List ByteArray) (l1 : List ByteArray) : Option (Bool) := if (l0.length : Int) = (l1.length : Int) then (laws_eqStringS.l0 k l0 l1 0) else (some false)
theorem laws_eqStringS.mono_l : ∀ k, (∀ y0 y1 y2, LeO (laws_eqStringS.l0 k y0 y1 y2) (laws_eqStringS.l0 (k + 1) y0 y1 y2))
 | 0 => fun _ _ _ r h => by simp [laws_eqStringS.l0] at h
 | k + 1 => by
  have ih0 := laws_eqStringS.mono_l k
  ·intro y0 y1 y2
   unfold laws_eqStringS.l0
   repeat' first
   | (with_reducible exact ih0 _ _ _)
   | (with_reducible exact LeO.refl _)
   | (with_reducible exact LeO.none _)
   | (with_reducible refine LeO.ite ?_ ?_)
   | (with_reducible refine LeO.bind ?_ (fun _ => ?_))
   | exact ih0 _ _ _
   | exact LeO.none _
   | refine LeO.ite ?_ ?_
   | refine LeO.bind ?_ (fun _ => ?_)
theorem laws_eqStringS.mono : ∀ a0 a1 k, LeO (laws_eqStringS.f k a0 a1) (laws_eqStringS.f (k + 1) a0 a1) := by
 intro a0 a1 k
 have ih0 := laws_eqStringS.mono_l k
 unfold laws_eqStringS.f
 repeat' first
   | (with_reducible exact ih0 _ _ _)
   | (with_reducible exact LeO.refl _)
   | (with_reducible exact LeO.none _)
   | (with_reducible refine LeO.ite ?_ ?_)
   | (with_reducible refine LeO.bind ?_ (fun _ => ?_))
   | exact ih0 _ _ _
   | exact LeO.none _
   | refine LeO.ite ?_ ?_
   | refine LeO.bind ?_ (fun _ => ?_)
set_option maxHeartbeats 64000000 in
set_option maxRecDepth 100000 in
theorem laws_eqStringS.calls (k : Nat) (A0 : Option Addr) (c0 : Nat) (l0 : List ByteArray) (A1 : Option Addr) (c1 : Nat) (l1 : List ByteArray) (r : Bool) (w : World) (hr0 : Kd.C Kd.string w A0 l0.length l0) (hc0 : l0.length ≤ c0) (hr1 : Kd.C Kd.string w A1 l1.length l1) (hc1 : l1.length ≤ c1) (h : laws_eqStringS.f k l0 l1 = some r) :
  Calls Try.prog 143 #[.slice A0 l0.length c0, .slice A1 l1.length c1] w fun e w' => e = .returned (.bool r) ∧ Drawn0 w w' := by
 obtain ⟨HR0, HC0, HR1, HC1⟩ := zD4 hr0 hc0 hr1 hc1
 clear hr0 hc0 hr1 hc1
 have H : (if (l0.length : Int) = (l1.length : Int) then (laws_eqStringS.l0 k l0 l1 0) else (some false)) = some r := h
 clear h
 by_cases c3 : (l0.length : Int) = (l1.length : Int)
 rotate_left
 ·rw [if_neg c3] at H
  have c3b0 : ((l0.length : Int) == (l1.length : Int)) = false := beq_eq_false_iff_ne.mpr c3
  have c3b1 : ((l0.length : Int) != (l1.length : Int)) = true := bne_iff_ne.mpr c3
  have c3b2 : (l0.length == l1.length) = false := by first | simpa using c3 | (simp at c3 ⊢; omega)
  obtain rfl := Option.some.inj H
  go_enter Try.func143, Try.ntmps143
  go_wp2
  repeat (go_quiet (fail); try go_wp2)
  go_ret
  exact zH78

 rw [if_pos c3] at H
 have c3b0 : ((l0.length : Int) == (l1.length : Int)) = true := beq_iff_eq.mpr c3
 have c3b1 : ((l0.length : Int) != (l1.length : Int)) = false := bne_eq_false_iff_eq.mpr c3
 have c3b2 : (l0.length == l1.length) = true := by first | simpa using c3 | (simp at c3 ⊢; omega)
 clear c3
 have H' := zb H
 clear H
 go_enter Try.func143, Try.ntmps143
 go_wp2
 repeat (go_quiet (fail); try go_wp2)
 go_loopg [5] k (fun kq v5 w' => ∃ (x5_1 : Int), v5 = .int .i64 x5_1 ∧ Aside0 (laws_eqStringS.l0 kq l0 l1 x5_1 = some r) ∧ Aside0 (kq ≤ k) ∧ Drawn0 w w')
 case atStart => exact ⟨(0), zG100, H', ⟨Nat.le_refl _⟩, zH112⟩
 case round =>
  clear H'
  try clear c1
  try clear c3
  try clear c3b0
  try clear c3b1
  try clear c3b2
  obtain ⟨x5_1, rfl, HA, HK1, ⟨m1, rfl⟩⟩ := hrel
  cases gk with
  | zero => exact absurd HA.out (by simp [laws_eqStringS.l0])
  | succ k1 =>
   have H := HA.out
   clear HA
   simp only [laws_eqStringS.l0] at H
   by_cases c4 : x5_1 < (l0.length : Int)
   rotate_left
   ·rw [if_neg c4] at H
    have c4b0 := decide_eq_false c4
    clear c4
    obtain rfl := Option.some.inj H
    go_wp2
    repeat (go_quiet (fail); try go_wp2)
    go_ret
    exact zH78
   rw [if_pos c4] at H
   have c4b0 := decide_eq_true c4
   clear c4
   by_cases c5 : 0 ≤ x5_1
   rotate_left
   ·rw [if_neg c5] at H
    exact absurd H (by simp)
   rw [if_pos c5] at H
   have c5b0 := decide_eq_true c5
   clear c5
   by_cases c6 : x5_1 < (l1.length : Int)
   rotate_left
   ·rw [if_neg c6] at H
    exact absurd H (by simp)
   rw [if_pos c6] at H
   have c6b0 := decide_eq_true c6
   clear c6
   by_cases c7 : (rdOf ByteArray.empty l0 x5_1).toList = (rdOf ByteArray.empty l1 x5_1).toList
   rotate_left
   ·rw [if_neg c7] at H
    have c7b0 : ((rdOf ByteArray.empty l0 x5_1).toList == (rdOf ByteArray.empty l1 x5_1).toList) = false := beq_eq_false_iff_ne.mpr c7
    have c7b1 : ((rdOf ByteArray.empty l0 x5_1).toList != (rdOf ByteArray.empty l1 x5_1).toList) = true := bne_iff_ne.mpr c7
    obtain rfl := Option.some.inj H
    have p306 : 0 ≤ (x5_1 : Int) := zO
    have q306 : x5_1 < (l0.length : Int) := zO
    obtain ⟨ad306, e306, hx306_0⟩ := zal HR0.out x5_1 p306 q306
    cases e306
    replace p306 := eq_true p306
    replace q306 := eq_true q306
    have p307 : 0 ≤ (x5_1 : Int) := zO
    have q307 : x5_1 < (l1.length : Int) := zO
    obtain ⟨ad307, e307, hx307_0⟩ := zal HR1.out x5_1 p307 q307
    cases e307
    replace p307 := eq_true p307
    replace q307 := eq_true q307
    go_wp2
    repeat (go_quiet (fail); try go_wp2)
    go_ret
    exact zH78
   rw [if_pos c7] at H
   have c7b0 : ((rdOf ByteArray.empty l0 x5_1).toList == (rdOf ByteArray.empty l1 x5_1).toList) = true := beq_iff_eq.mpr c7
   have c7b1 : ((rdOf ByteArray.empty l0 x5_1).toList != (rdOf ByteArray.empty l1 x5_1).toList) = false := bne_eq_false_iff_eq.mpr c7
   clear c7
   have H' := zb H
   clear H
   have p306 : 0 ≤ (x5_1 : Int) := zO
   have q306 : x5_1 < (l0.length : Int) := zO
   obtain ⟨ad306, e306, hx306_0⟩ := zal HR0.out x5_1 p306 q306
   cases e306
   replace p306 := eq_true p306
   replace q306 := eq_true q306
   have p307 : 0 ≤ (x5_1 : Int) := zO
   have q307 : x5_1 < (l1.length : Int) := zO
   obtain ⟨ad307, e307, hx307_0⟩ := zal HR1.out x5_1 p307 q307
   cases e307
   replace p307 := eq_true p307
   replace q307 := eq_true q307
   go_wp2
   repeat (go_quiet (fail); try go_wp2)
   go_roundg k1
   case measure => have := HK1.out; omega
   case rel => exact ⟨(wrap64 (x5_1 + 1)), zG100, H', ⟨zH120⟩, zH112⟩
/-! ### laws_eqWorker: function 114 -/
def laws_eqWorker.f (k : Nat) (a0_0 : ByteArray) (a0_1 : Int) (a0_2 : Int) (a0_3 : Int) (l0_4 : List ByteArray) (a1_0 : ByteArray) (a1_1 : Int) (a1_2 : Int) (a1_3 : Int) (l1_4 : List ByteArray) : Option (Bool) := if a0_0.toList = a1_0.toList then (if a0_1 = a1_1 then (if a0_2 = a1_2 then (if a0_3 = a1_3 then ((laws_eqStringS.f k l0_4 l1_4).bind fun t310 => (if t310 = true then (some true) else (some false))) else (some false)) else (some false)) else (some false)) else (some false)
theorem laws_eqWorker.mono : ∀ a0 a1 a2 a3 a4 a5 a6 a7 a8 a9 k, LeO (laws_eqWorker.f k a0 a1 a2 a3 a4 a5 a6 a7 a8 a9) (laws_eqWorker.f (k + 1) a0 a1 a2 a3 a4 a5 a6 a7 a8 a9) := by
 intro a0 a1 a2 a3 a4 a5 a6 a7 a8 a9 k
 unfold laws_eqWorker.f
 repeat' first
   | (with_reducible exact laws_eqStringS.mono _ _ _)
   | (with_reducible exact LeO.refl _)
   | (with_reducible exact LeO.none _)
   | (with_reducible refine LeO.ite ?_ ?_)
   | (with_reducible refine LeO.bind ?_ (fun _ => ?_))
   | exact laws_eqStringS.mono _ _ _
   | exact LeO.none _
   | refine LeO.ite ?_ ?_
   | refine LeO.bind ?_ (fun _ => ?_)
set_option maxHeartbeats 64000000 in
set_option maxRecDepth 100000 in
theorem laws_eqWorker.calls (k : Nat) (a0_0 : ByteArray) (a0_1 : Int) (a0_2 : Int) (a0_3 : Int) (A0_4 : Option Addr) (c0_4 : Nat) (l0_4 : List ByteArray) (a1_0 : ByteArray) (a1_1 : Int) (a1_2 : Int) (a1_3 : Int) (A1_4 : Option Addr) (c1_4 : Nat) (l1_4 : List ByteArray) (r : Bool) (w : World) (hr0_4 : Kd.C Kd.string w A0_4 l0_4.length l0_4) (hc0_4 : l0_4.length ≤ c0_4) (hr1_4 : Kd.C Kd.string w A1_4 l1_4.length l1_4) (hc1_4 : l1_4.length ≤ c1_4) (h : laws_eqWorker.f k a0_0 a0_1 a0_2 a0_3 l0_4 a1_0 a1_1 a1_2 a1_3 l1_4 = some r) :
  Calls Try.prog 114 #[.agg #[.string a0_0, .int .i64 a0_1, .int .i64 a0_2, .int .i64 a0_3, .slice A0_4 l0_4.length c0_4], .agg #[.string a1_0, .int .i64 a1_1, .int .i64 a1_2, .int .i64 a1_3, .slice A1_4 l1_4.length c1_4]] w fun e w' => e = .returned (.bool r) ∧ Below w.heap.size w w' := by
 have hu72 := Try.underlying72
 obtain ⟨HR0_4, HC0_4, HR1_4, HC1_4, HB⟩ := zD5 hr0_4 hc0_4 hr1_4 hc1_4 (Below.refl w.heap.size w)
 clear hr0_4 hc0_4 hr1_4 hc1_4
 have H : (if a0_0.toList = a1_0.toList then (if a0_1 = a1_1 then (if a0_2 = a1_2 then (if a0_3 = a1_3 then ((laws_eqStringS.f k l0_4 l1_4).bind fun t310 => (if t310 = true then (some true) else (some false))) else (some false)) else (some false)) else (some false)) else (some false)) = some r := h
 clear h
 by_cases c3 : a0_0.toList = a1_0.toList
 rotate_left
 ·rw [if_neg c3] at H
  have c3b0 : (a0_0.toList == a1_0.toList) = false := beq_eq_false_iff_ne.mpr c3
  have c3b1 : (a0_0.toList != a1_0.toList) = true := bne_iff_ne.mpr c3
  obtain rfl := Option.some.inj H
  go_enter Try.func114, Try.ntmps114
  go_wp2_with (first | ((with_reducible refine gate_dst (N := 2) rfl ?_); refine box_event ?hg (N := 2) ?hd (cs := #[.string a0_0, .int .i64 a0_1, .int .i64 a0_2, .int .i64 a0_3, .slice A0_4 l0_4.length c0_4]) (t := 72) ?hr ?_; (case hd => rfl); (case hg => rfl); (case hr => exact zH117); intro gb308 hg w34 hbox hb; have n_ := zA_ (zb (zp zG77 hb)) (zA_ (zb (hbox)) (zA_ (zN1 w.heap.size hg (zo zG77)) (zN1 w.heap.size hg (zo zG77)))); clear HB; obtain ⟨HB, BK308, GW308, GE308⟩ := n_; clear hb hbox hg) | ((with_reducible refine gate_dst (N := 3) rfl ?_); refine box_event ?hg (N := 3) ?hd (cs := #[.string a1_0, .int .i64 a1_1, .int .i64 a1_2, .int .i64 a1_3, .slice A1_4 l1_4.length c1_4]) (t := 72) ?hr ?_; (case hd => rfl); (case hg => rfl); (case hr => exact zH117); intro gb309 hg w35 hbox hb; have n_ := zA_ (zb (zq (g := gb308) (o := .cells #[.string a0_0, .int .i64 a0_1, .int .i64 a0_2, .int .i64 a0_3, .slice A0_4 l0_4.length c0_4] 72 (0, 0)) zG84 hb)) (zA_ (zb (zp zG69 hb)) (zA_ (zb (hbox)) (zA_ (zN1 w.heap.size hg (zo zG69)) (zA_ (zN1 w.heap.size hg (zo zG69)) (zN2 hg (zaa (g := gb308) (o := .cells #[.string a0_0, .int .i64 a0_1, .int .i64 a0_2, .int .i64 a0_3, .slice A0_4 l0_4.length c0_4] 72 (0, 0)) zG84)))))); clear BK308 HB; obtain ⟨BK308, HB, BK309, GW309, GE309, NB308_309, NB309_308⟩ := n_; clear hb hbox hg; have hnb36 := NB308_309.out; have hnc36 := NB309_308.out; obtain ⟨hcz37_0, hcz37_1, hcz37_2, hcz37_3, hcz37_4, hfz37_0, hfz37_1, hfz37_2, hfz37_3, hfz37_4⟩ := zB5 BK308.out; obtain ⟨hcz38_0, hcz38_1, hcz38_2, hcz38_3, hcz38_4, hfz38_0, hfz38_1, hfz38_2, hfz38_3, hfz38_4⟩ := zB5 BK309.out))
  go_ret
  exact zH21

 rw [if_pos c3] at H
 have c3b0 : (a0_0.toList == a1_0.toList) = true := beq_iff_eq.mpr c3
 have c3b1 : (a0_0.toList != a1_0.toList) = false := bne_eq_false_iff_eq.mpr c3
 clear c3
 by_cases c4 : a0_1 = a1_1
 rotate_left
 ·rw [if_neg c4] at H
  have c4b0 : (a0_1 == a1_1) = false := beq_eq_false_iff_ne.mpr c4
  have c4b1 : (a0_1 != a1_1) = true := bne_iff_ne.mpr c4
  obtain rfl := Option.some.inj H
  go_enter Try.func114, Try.ntmps114
  go_wp2_with (first | ((with_reducible refine gate_dst (N := 2) rfl ?_); refine box_event ?hg (N := 2) ?hd (cs := #[.string a0_0, .int .i64 a0_1, .int .i64 a0_2, .int .i64 a0_3, .slice A0_4 l0_4.length c0_4]) (t := 72) ?hr ?_; (case hd => rfl); (case hg => rfl); (case hr => exact zH117); intro gb308 hg w29 hbox hb; have n_ := zA_ (zb (zp zG77 hb)) (zA_ (zb (hbox)) (zA_ (zN1 w.heap.size hg (zo zG77)) (zN1 w.heap.size hg (zo zG77)))); clear HB; obtain ⟨HB, BK308, GW308, GE308⟩ := n_; clear hb hbox hg) | ((with_reducible refine gate_dst (N := 3) rfl ?_); refine box_event ?hg (N := 3) ?hd (cs := #[.string a1_0, .int .i64 a1_1, .int .i64 a1_2, .int .i64 a1_3, .slice A1_4 l1_4.length c1_4]) (t := 72) ?hr ?_; (case hd => rfl); (case hg => rfl); (case hr => exact zH117); intro gb309 hg w30 hbox hb; have n_ := zA_ (zb (zq (g := gb308) (o := .cells #[.string a0_0, .int .i64 a0_1, .int .i64 a0_2, .int .i64 a0_3, .slice A0_4 l0_4.length c0_4] 72 (0, 0)) zG84 hb)) (zA_ (zb (zp zG69 hb)) (zA_ (zb (hbox)) (zA_ (zN1 w.heap.size hg (zo zG69)) (zA_ (zN1 w.heap.size hg (zo zG69)) (zN2 hg (zaa (g := gb308) (o := .cells #[.string a0_0, .int .i64 a0_1, .int .i64 a0_2, .int .i64 a0_3, .slice A0_4 l0_4.length c0_4] 72 (0, 0)) zG84)))))); clear BK308 HB; obtain ⟨BK308, HB, BK309, GW309, GE309, NB308_309, NB309_308⟩ := n_; clear hb hbox hg; have hnb31 := NB308_309.out; have hnc31 := NB309_308.out; obtain ⟨hcz32_0, hcz32_1, hcz32_2, hcz32_3, hcz32_4, hfz32_0, hfz32_1, hfz32_2, hfz32_3, hfz32_4⟩ := zB5 BK308.out; obtain ⟨hcz33_0, hcz33_1, hcz33_2, hcz33_3, hcz33_4, hfz33_0, hfz33_1, hfz33_2, hfz33_3, hfz33_4⟩ := zB5 BK309.out))
  go_ret
  exact zH21
 rw [if_pos c4] at H
 have c4b0 : (a0_1 == a1_1) = true := beq_iff_eq.mpr c4
 have c4b1 : (a0_1 != a1_1) = false := bne_eq_false_iff_eq.mpr c4
 clear c4
 by_cases c5 : a0_2 = a1_2
 rotate_left
 ·rw [if_neg c5] at H
  have c5b0 : (a0_2 == a1_2) = false := beq_eq_false_iff_ne.mpr c5
  have c5b1 : (a0_2 != a1_2) = true := bne_iff_ne.mpr c5
  obtain rfl := Option.some.inj H
  go_enter Try.func114, Try.ntmps114
  go_wp2_with (first | ((with_reducible refine gate_dst (N := 2) rfl ?_); refine box_event ?hg (N := 2) ?hd (cs := #[.string a0_0, .int .i64 a0_1, .int .i64 a0_2, .int .i64 a0_3, .slice A0_4 l0_4.length c0_4]) (t := 72) ?hr ?_; (case hd => rfl); (case hg => rfl); (case hr => exact zH117); intro gb308 hg w24 hbox hb; have n_ := zA_ (zb (zp zG77 hb)) (zA_ (zb (hbox)) (zA_ (zN1 w.heap.size hg (zo zG77)) (zN1 w.heap.size hg (zo zG77)))); clear HB; obtain ⟨HB, BK308, GW308, GE308⟩ := n_; clear hb hbox hg) | ((with_reducible refine gate_dst (N := 3) rfl ?_); refine box_event ?hg (N := 3) ?hd (cs := #[.string a1_0, .int .i64 a1_1, .int .i64 a1_2, .int .i64 a1_3, .slice A1_4 l1_4.length c1_4]) (t := 72) ?hr ?_; (case hd => rfl); (case hg => rfl); (case hr => exact zH117); intro gb309 hg w25 hbox hb; have n_ := zA_ (zb (zq (g := gb308) (o := .cells #[.string a0_0, .int .i64 a0_1, .int .i64 a0_2, .int .i64 a0_3, .slice A0_4 l0_4.length c0_4] 72 (0, 0)) zG84 hb)) (zA_ (zb (zp zG69 hb)) (zA_ (zb (hbox)) (zA_ (zN1 w.heap.size hg (zo zG69)) (zA_ (zN1 w.heap.size hg (zo zG69)) (zN2 hg (zaa (g := gb308) (o := .cells #[.string a0_0, .int .i64 a0_1, .int .i64 a0_2, .int .i64 a0_3, .slice A0_4 l0_4.length c0_4] 72 (0, 0)) zG84)))))); clear BK308 HB; obtain ⟨BK308, HB, BK309, GW309, GE309, NB308_309, NB309_308⟩ := n_; clear hb hbox hg; have hnb26 := NB308_309.out; have hnc26 := NB309_308.out; obtain ⟨hcz27_0, hcz27_1, hcz27_2, hcz27_3, hcz27_4, hfz27_0, hfz27_1, hfz27_2, hfz27_3, hfz27_4⟩ := zB5 BK308.out; obtain ⟨hcz28_0, hcz28_1, hcz28_2, hcz28_3, hcz28_4, hfz28_0, hfz28_1, hfz28_2, hfz28_3, hfz28_4⟩ := zB5 BK309.out))
  go_ret
  exact zH21
 rw [if_pos c5] at H
 have c5b0 : (a0_2 == a1_2) = true := beq_iff_eq.mpr c5
 have c5b1 : (a0_2 != a1_2) = false := bne_eq_false_iff_eq.mpr c5
 clear c5
 by_cases c6 : a0_3 = a1_3
 rotate_left
 ·rw [if_neg c6] at H
  have c6b0 : (a0_3 == a1_3) = false := beq_eq_false_iff_ne.mpr c6
  have c6b1 : (a0_3 != a1_3) = true := bne_iff_ne.mpr c6
  obtain rfl := Option.some.inj H
  go_enter Try.func114, Try.ntmps114
  go_wp2_with (first | ((with_reducible refine gate_dst (N := 2) rfl ?_); refine box_event ?hg (N := 2) ?hd (cs := #[.string a0_0, .int .i64 a0_1, .int .i64 a0_2, .int .i64 a0_3, .slice A0_4 l0_4.length c0_4]) (t := 72) ?hr ?_; (case hd => rfl); (case hg => rfl); (case hr => exact zH117); intro gb308 hg w19 hbox hb; have n_ := zA_ (zb (zp zG77 hb)) (zA_ (zb (hbox)) (zA_ (zN1 w.heap.size hg (zo zG77)) (zN1 w.heap.size hg (zo zG77)))); clear HB; obtain ⟨HB, BK308, GW308, GE308⟩ := n_; clear hb hbox hg) | ((with_reducible refine gate_dst (N := 3) rfl ?_); refine box_event ?hg (N := 3) ?hd (cs := #[.string a1_0, .int .i64 a1_1, .int .i64 a1_2, .int .i64 a1_3, .slice A1_4 l1_4.length c1_4]) (t := 72) ?hr ?_; (case hd => rfl); (case hg => rfl); (case hr => exact zH117); intro gb309 hg w20 hbox hb; have n_ := zA_ (zb (zq (g := gb308) (o := .cells #[.string a0_0, .int .i64 a0_1, .int .i64 a0_2, .int .i64 a0_3, .slice A0_4 l0_4.length c0_4] 72 (0, 0)) zG84 hb)) (zA_ (zb (zp zG69 hb)) (zA_ (zb (hbox)) (zA_ (zN1 w.heap.size hg (zo zG69)) (zA_ (zN1 w.heap.size hg (zo zG69)) (zN2 hg (zaa (g := gb308) (o := .cells #[.string a0_0, .int .i64 a0_1, .int .i64 a0_2, .int .i64 a0_3, .slice A0_4 l0_4.length c0_4] 72 (0, 0)) zG84)))))); clear BK308 HB; obtain ⟨BK308, HB, BK309, GW309, GE309, NB308_309, NB309_308⟩ := n_; clear hb hbox hg; have hnb21 := NB308_309.out; have hnc21 := NB309_308.out; obtain ⟨hcz22_0, hcz22_1, hcz22_2, hcz22_3, hcz22_4, hfz22_0, hfz22_1, hfz22_2, hfz22_3, hfz22_4⟩ := zB5 BK308.out; obtain ⟨hcz23_0, hcz23_1, hcz23_2, hcz23_3, hcz23_4, hfz23_0, hfz23_1, hfz23_2, hfz23_3, hfz23_4⟩ := zB5 BK309.out))
  go_ret
  exact zH21
 rw [if_pos c6] at H
 have c6b0 : (a0_3 == a1_3) = true := beq_iff_eq.mpr c6
 have c6b1 : (a0_3 != a1_3) = false := bne_eq_false_iff_eq.mpr c6
 clear c6
 replace H := Option.bind_eq_some_iff.mp H
 obtain ⟨t310, A70, H⟩ := H
 replace H : (if t310 = true then (some true) else (some false)) = some r := H
 have A7 := zb A70
 clear A70
 by_cases c8 : t310 = true
 ·subst c8
  have H1 : (some true) = some r := by rw [if_pos rfl] at H; exact H
  clear H
  have H := H1
  clear H1
  obtain rfl := Option.some.inj H
  go_enter Try.func114, Try.ntmps114
  go_wp2_with (first | ((with_reducible refine gate_dst (N := 2) rfl ?_); refine box_event ?hg (N := 2) ?hd (cs := #[.string a0_0, .int .i64 a0_1, .int .i64 a0_2, .int .i64 a0_3, .slice A0_4 l0_4.length c0_4]) (t := 72) ?hr ?_; (case hd => rfl); (case hg => rfl); (case hr => exact zH117); intro gb308 hg w9 hbox hb; have n_ := zA_ (zb (zp zG77 hb)) (zA_ (zb (hbox)) (zA_ (zN1 w.heap.size hg (zo zG77)) (zN1 w.heap.size hg (zo zG77)))); clear HB; obtain ⟨HB, BK308, GW308, GE308⟩ := n_; clear hb hbox hg) | ((with_reducible refine gate_dst (N := 3) rfl ?_); refine box_event ?hg (N := 3) ?hd (cs := #[.string a1_0, .int .i64 a1_1, .int .i64 a1_2, .int .i64 a1_3, .slice A1_4 l1_4.length c1_4]) (t := 72) ?hr ?_; (case hd => rfl); (case hg => rfl); (case hr => exact zH117); intro gb309 hg w10 hbox hb; have n_ := zA_ (zb (zq (g := gb308) (o := .cells #[.string a0_0, .int .i64 a0_1, .int .i64 a0_2, .int .i64 a0_3, .slice A0_4 l0_4.length c0_4] 72 (0, 0)) zG84 hb)) (zA_ (zb (zp zG69 hb)) (zA_ (zb (hbox)) (zA_ (zN1 w.heap.size hg (zo zG69)) (zA_ (zN1 w.heap.size hg (zo zG69)) (zN2 hg (zaa (g := gb308) (o := .cells #[.string a0_0, .int .i64 a0_1, .int .i64 a0_2, .int .i64 a0_3, .slice A0_4 l0_4.length c0_4] 72 (0, 0)) zG84)))))); clear BK308 HB; obtain ⟨BK308, HB, BK309, GW309, GE309, NB308_309, NB309_308⟩ := n_; clear hb hbox hg; have hnb11 := NB308_309.out; have hnc11 := NB309_308.out; obtain ⟨hcz12_0, hcz12_1, hcz12_2, hcz12_3, hcz12_4, hfz12_0, hfz12_1, hfz12_2, hfz12_3, hfz12_4⟩ := zB5 BK308.out; obtain ⟨hcz13_0, hcz13_1, hcz13_2, hcz13_3, hcz13_4, hfz13_0, hfz13_1, hfz13_2, hfz13_3, hfz13_4⟩ := zB5 BK309.out) | ((with_reducible refine gate_callee (f := 143) rfl ?_); refine goesL_ (some 29) rfl rfl Try.func143 zG101 rfl #[.slice A0_4 l0_4.length c0_4, .slice A1_4 l1_4.length c1_4] rfl zG67 ?_; (with_reducible refine (laws_eqStringS.calls k _ _ l0_4 _ _ l1_4 true _ ?side1 ?side2 ?side3 ?side4 A7.out).mono ?_); (case side1 => exact zH56); (case side2 => exact HC0_4.out); (case side3 => exact zH54); (case side4 => exact HC1_4.out); rintro e w' ⟨rfl, ⟨nd, rfl⟩⟩; refine ⟨_, rfl, ?_⟩))
  go_ret
  exact zH21
 replace c8 := Bool.eq_false_iff.mpr c8
 subst c8
 have H1 : (some false) = some r := by rw [if_neg (show ¬ (false = true) by decide)] at H; exact H
 clear H
 have H := H1
 clear H1
 obtain rfl := Option.some.inj H
 go_enter Try.func114, Try.ntmps114
 go_wp2_with (first | ((with_reducible refine gate_dst (N := 2) rfl ?_); refine box_event ?hg (N := 2) ?hd (cs := #[.string a0_0, .int .i64 a0_1, .int .i64 a0_2, .int .i64 a0_3, .slice A0_4 l0_4.length c0_4]) (t := 72) ?hr ?_; (case hd => rfl); (case hg => rfl); (case hr => exact zH117); intro gb308 hg w14 hbox hb; have n_ := zA_ (zb (zp zG77 hb)) (zA_ (zb (hbox)) (zA_ (zN1 w.heap.size hg (zo zG77)) (zN1 w.heap.size hg (zo zG77)))); clear HB; obtain ⟨HB, BK308, GW308, GE308⟩ := n_; clear hb hbox hg) | ((with_reducible refine gate_dst (N := 3) rfl ?_); refine box_event ?hg (N := 3) ?hd (cs := #[.string a1_0, .int .i64 a1_1, .int .i64 a1_2, .int .i64 a1_3, .slice A1_4 l1_4.length c1_4]) (t := 72) ?hr ?_; (case hd => rfl); (case hg => rfl); (case hr => exact zH117); intro gb309 hg w15 hbox hb; have n_ := zA_ (zb (zq (g := gb308) (o := .cells #[.string a0_0, .int .i64 a0_1, .int .i64 a0_2, .int .i64 a0_3, .slice A0_4 l0_4.length c0_4] 72 (0, 0)) zG84 hb)) (zA_ (zb (zp zG69 hb)) (zA_ (zb (hbox)) (zA_ (zN1 w.heap.size hg (zo zG69)) (zA_ (zN1 w.heap.size hg (zo zG69)) (zN2 hg (zaa (g := gb308) (o := .cells #[.string a0_0, .int .i64 a0_1, .int .i64 a0_2, .int .i64 a0_3, .slice A0_4 l0_4.length c0_4] 72 (0, 0)) zG84)))))); clear BK308 HB; obtain ⟨BK308, HB, BK309, GW309, GE309, NB308_309, NB309_308⟩ := n_; clear hb hbox hg; have hnb16 := NB308_309.out; have hnc16 := NB309_308.out; obtain ⟨hcz17_0, hcz17_1, hcz17_2, hcz17_3, hcz17_4, hfz17_0, hfz17_1, hfz17_2, hfz17_3, hfz17_4⟩ := zB5 BK308.out; obtain ⟨hcz18_0, hcz18_1, hcz18_2, hcz18_3, hcz18_4, hfz18_0, hfz18_1, hfz18_2, hfz18_3, hfz18_4⟩ := zB5 BK309.out) | ((with_reducible refine gate_callee (f := 143) rfl ?_); refine goesL_ (some 29) rfl rfl Try.func143 zG101 rfl #[.slice A0_4 l0_4.length c0_4, .slice A1_4 l1_4.length c1_4] rfl zG67 ?_; (with_reducible refine (laws_eqStringS.calls k _ _ l0_4 _ _ l1_4 false _ ?side1 ?side2 ?side3 ?side4 A7.out).mono ?_); (case side1 => exact zH56); (case side2 => exact HC0_4.out); (case side3 => exact zH54); (case side4 => exact HC1_4.out); rintro e w' ⟨rfl, ⟨nd, rfl⟩⟩; refine ⟨_, rfl, ?_⟩))
 go_ret
 exact zH21
end Go.Proofs.Ytojncbpeeboooaa.U
