-- squeezed
-- made by pp.py (wip/tools) out of the translation; Lean checks it
import Derived.Test.YtdohpbhljifodaaC0
import Derived.Test.YtdohpbhljifodaaC5
namespace Go.Proofs.Ytdohpbhljifodaa.C
open Go.RowKit Go.Proofs.YtdohpbhljifodaaW.PrintWords Go.Proofs.YtdohpbhljifodaaW.PrintLast Go.Proofs.YtdohpbhljifodaaW.PrintMore
attribute [local go_sem] max2_int min2_int max_two min_two max_three min_three max_four min_four   -- for this text's walks alone
set_option linter.unusedVariables false
set_option linter.unusedSimpArgs false

abbrev b6A0 := zM 10 0
abbrev b6A1 := zM 10 1
abbrev b6A2 := zM 10 3
abbrev b6A3 := zM 10 7
abbrev b6A4 := zM 10 23
abbrev b6A5 := zM 10 55
abbrev b6A6 := zM 10 119
abbrev b6A7 := zM 10 127
abbrev b6A8 := zM 10 255
abbrev b6A9 := zM 10 511
abbrev b6A10 := zM 10 1023
/-! ### laws_eqCartObsS: function 11 -/
def laws_eqCartObsS.l0 : Nat → List (S34) → List (S34) → Int → Option (Bool)
 | 0, _, _, _ => none
 | k + 1, x0, x1, x5 => if x5 < (x0.length : Int) then (if 0 ≤ x5 then (if x5 < (x1.length : Int) then ((laws_eqCartObs.f ((rd_T34 x0 x5).f0) ((rd_T34 x0 x5).f1) ((rd_T34 x1 x5).f0) ((rd_T34 x1 x5).f1)).bind fun t224 => (if t224 = true then (laws_eqCartObsS.l0 k x0 x1 (wrap64 (x5 + 1))) else (some false))) else (none)) else (none)) else (some true)
def laws_eqCartObsS.f (k : Nat) (l0 : List (S34)) (l1 : List (S34)) : Option (Bool) := if (l0.length : Int) = (l1.length : Int) then (laws_eqCartObsS.l0 k l0 l1 0) else (some false)
theorem laws_eqCartObsS.mono_l : ∀ k, (∀ y0 y1 y2, LeO (laws_eqCartObsS.l0 k y0 y1 y2) (laws_eqCartObsS.l0 (k + 1) y0 y1 y2))
 | 0 => fun _ _ _ r h => by simp [laws_eqCartObsS.l0] at h
 | k + 1 => by
  have ih0 := laws_eqCartObsS.mono_l k
  ·intro y0 y1 y2
   unfold laws_eqCartObsS.l0
   repeat' first
   | (with_reducible exact ih0 _ _ _)
   | (with_reducible exact LeO.refl _)
   | (with_reducible exact LeO.none _)
   | (with_reducible refine LeO.ite ?_ ?_)
   | (with_reducible refine LeO.bind ?_ (fun _ => ?_))
   | exact ih0 _ _ _
   | exact LeO.none _
   | refine LeO.ite ?_ ?_
   | refine LeO.bind ?_ (fun _ => ?_)
theorem laws_eqCartObsS.mono : ∀ a0 a1 k, LeO (laws_eqCartObsS.f k a0 a1) (laws_eqCartObsS.f (k + 1) a0 a1) := by
 intro a0 a1 k
 have ih0 := laws_eqCartObsS.mono_l k
 unfold laws_eqCartObsS.f
 repeat' first
   | (with_reducible exact ih0 _ _ _)
   | (with_reducible exact LeO.refl _)
   | (with_reducible exact LeO.none _)
   | (with_reducible refine LeO.ite ?_ ?_)
   | (with_reducible refine LeO.bind ?_ (fun _ => ?_))
   | exact ih0 _ _ _
   | exact LeO.none _
   | refine LeO.ite ?_ ?_
   | refine LeO.bind ?_ (fun _ => ?_)
def laws_eqCartObsS.T6 : Bool × List (List Nat × List Nat) := (true, [([], []), ([], []), ([0, 1], [0, 1]), ([2], [2]), ([], []), ([], []), ([4, 5], [4, 5]), ([6], [6]), ([3, 7], [3, 7]), ([8], [8])])
def laws_eqCartObsS.B6 : List Nat := [0, 0, 3, 7, 0, 0, 48, 112, 255, 511]
theorem laws_eqCartObsS.tab6 : rtab .any (opsOf Try.f11 6) = laws_eqCartObsS.T6 := by kernel_rfl
theorem laws_eqCartObsS.bits6 : waitsOk laws_eqCartObsS.T6.2 laws_eqCartObsS.B6 = true := by kernel_rfl
set_option maxHeartbeats 64000000 in
set_option maxRecDepth 100000 in
theorem laws_eqCartObsS.calls (k : Nat) (A0 : Option Addr) (c0 : Nat) (l0 : List (S34)) (A1 : Option Addr) (c1 : Nat) (l1 : List (S34)) (r : Bool) (w : World) (hr0 : Kd.C k34 w A0 l0.length l0) (hc0 : l0.length ≤ c0) (hr1 : Kd.C k34 w A1 l1.length l1) (hc1 : l1.length ≤ c1) (h : laws_eqCartObsS.f k l0 l1 = some r) :
  Calls Try.prog 11 #[.slice A0 l0.length c0, .slice A1 l1.length c1] w fun e w' => e = .returned (.bool r) ∧ Below w.heap.size w w' := by
 have hu34 := Try.underlying34
 obtain ⟨HR0, HC0, HR1, HC1, HB⟩ := zD5 hr0 hc0 hr1 hc1 (Below.refl w.heap.size w)
 clear hr0 hc0 hr1 hc1
 have H : (if (l0.length : Int) = (l1.length : Int) then (laws_eqCartObsS.l0 k l0 l1 0) else (some false)) = some r := h
 clear h
 by_cases c3 : (l0.length : Int) = (l1.length : Int)
 rotate_left
 ·rw [if_neg c3] at H
  have c3b0 : ((l0.length : Int) == (l1.length : Int)) = false := beq_eq_false_iff_ne.mpr c3
  have c3b1 : ((l0.length : Int) != (l1.length : Int)) = true := bne_iff_ne.mpr c3
  have c3b2 : (l0.length == l1.length) = false := by first | simpa using c3 | (simp at c3 ⊢; omega)
  obtain rfl := Option.some.inj H
  go_enter Try.func11, Try.ntmps11
  go_wp2
  go_ret
  exact zH21

 rw [if_pos c3] at H
 have c3b0 : ((l0.length : Int) == (l1.length : Int)) = true := beq_iff_eq.mpr c3
 have c3b1 : ((l0.length : Int) != (l1.length : Int)) = false := bne_eq_false_iff_eq.mpr c3
 have c3b2 : (l0.length == l1.length) = true := by first | simpa using c3 | (simp at c3 ⊢; omega)
 clear c3
 have H' := za H
 clear H
 go_enter Try.func11, Try.ntmps11
 go_wp2
 go_loopg [5] k (fun kq v5 w' => ∃ (x5_1 : Int), v5 = .int .i64 x5_1 ∧ Aside0 (laws_eqCartObsS.l0 kq l0 l1 x5_1 = some r) ∧ Aside0 (kq ≤ k) ∧ Aside0 (Below w.heap.size w w'))
 case atStart => exact ⟨(0), zG87, H', ⟨Nat.le_refl _⟩, ⟨zH65⟩⟩
 case round =>
  clear H'
  try clear c1
  try clear c3
  try clear c3b0
  try clear c3b1
  try clear c3b2
  obtain ⟨x5_1, rfl, HA, HK1, HB⟩ := hrel
  cases gk with
  | zero => exact absurd HA.out (by simp [laws_eqCartObsS.l0])
  | succ k1 =>
   have H := HA.out
   clear HA
   simp only [laws_eqCartObsS.l0] at H
   by_cases c4 : x5_1 < (l0.length : Int)
   rotate_left
   ·rw [if_neg c4] at H
    have c4b0 := decide_eq_false c4
    clear c4
    obtain rfl := Option.some.inj H
    go_wp2
    go_ret
    exact zH21
   rw [if_pos c4] at H
   have c4b0 := decide_eq_true c4
   clear c4
   by_cases c5 : 0 ≤ x5_1
   rotate_left
   ·rw [if_neg c5] at H
    exact absurd H (by simp)
   rw [if_pos c5] at H
   have c5b0 := decide_eq_true c5
   clear c5
   by_cases c6 : x5_1 < (l1.length : Int)
   rotate_left
   ·rw [if_neg c6] at H
    exact absurd H (by simp)
   rw [if_pos c6] at H
   have c6b0 := decide_eq_true c6
   clear c6
   replace H := Option.bind_eq_some_iff.mp H
   obtain ⟨t224, A70, H⟩ := H
   replace H : (if t224 = true then (laws_eqCartObsS.l0 k1 l0 l1 (wrap64 (x5_1 + 1))) else (some false)) = some r := H
   have A7 := za A70
   clear A70
   by_cases c8 : t224 = true
   rotate_left
   ·replace c8 := Bool.eq_false_iff.mpr c8
    subst c8
    have H1 : (some false) = some r := by rw [if_neg (show ¬ (false = true) by decide)] at H; exact H
    clear H
    have H := H1
    clear H1
    obtain rfl := Option.some.inj H
    try go_wp2
    have n0_ := za (zi HB.out)
    clear HB
    have HB := n0_
    clear n0_
    have p222 : 0 ≤ (x5_1 : Int) := zO
    have q222 : x5_1 < (l0.length : Int) := zO
    obtain ⟨ad222, e222, hx222_0, hx222_1⟩ := at_T34 HR0.out x5_1 p222 q222
    have hw222_1 := hx222_1
    have hw222_0 := hx222_0
    cases e222
    replace hx222_0 := (HB.out.cell (zj w _ hx222_0)).trans hx222_0
    replace hx222_1 := (HB.out.cell (zj w _ hx222_1)).trans hx222_1
    replace p222 := eq_true p222
    replace q222 := eq_true q222
    have p223 : 0 ≤ (x5_1 : Int) := zO
    have q223 : x5_1 < (l1.length : Int) := zO
    obtain ⟨ad223, e223, hx223_0, hx223_1⟩ := at_T34 HR1.out x5_1 p223 q223
    have hw223_1 := hx223_1
    have hw223_0 := hx223_0
    cases e223
    replace hx223_0 := (HB.out.cell (zj w _ hx223_0)).trans hx223_0
    replace hx223_1 := (HB.out.cell (zj w _ hx223_1)).trans hx223_1
    replace p223 := eq_true p223
    replace q223 := eq_true q223
    refine start_ (n := 10) (S := fun w' => w'.cell? (ad222.add ((x5_1).toNat * 2)) = some (.int .i64 ((rd_T34 l0 x5_1).f0)) ∧ w'.cell? ⟨(ad222.add ((x5_1).toNat * 2)).block, (ad222.add ((x5_1).toNat * 2)).off + 1, none⟩ = some (.int .i64 ((rd_T34 l0 x5_1).f1)) ∧ w'.cell? (ad223.add ((x5_1).toNat * 2)) = some (.int .i64 ((rd_T34 l1 x5_1).f0)) ∧ w'.cell? ⟨(ad223.add ((x5_1).toNat * 2)).block, (ad223.add ((x5_1).toNat * 2)).off + 1, none⟩ = some (.int .i64 ((rd_T34 l1 x5_1).f1))) (ds := []) b6A0 zG88 rfl rfl ⟨((HB.out.cell (zj w _ hw222_0)).trans hw222_0), ((HB.out.cell (zj w _ hw222_1)).trans hw222_1), ((HB.out.cell (zj w _ hw223_0)).trans hw223_0), ((HB.out.cell (zj w _ hw223_1)).trans hw223_1)⟩ (fun hHeld => ?_); refine with_tabW laws_eqCartObsS.tab6 laws_eqCartObsS.bits6 (fun HT_ HW_ => ?_)
    generalize wr.drew = w11 at HB hx222_0 hx222_1 hx223_0 hx223_1 hHeld ⊢
    refine zP 0 17 b6A1 HT_ ?_
    refine zP 1 18 b6A2 HT_ ?_
    refine zP 2 19 b6A3 HT_ ?_
    refine zP 4 21 b6A4 HT_ ?_
    refine zP 5 22 b6A5 HT_ ?_
    refine zP 6 23 b6A6 HT_ ?_
    refine zQ 3 20 b6A7 HT_ HW_ hHeld ?_
    refine zQ 7 24 b6A8 HT_ HW_ hHeld ?_
    refine one_ (i := 8) (N := some 25) b6A9 rfl rfl (one_of HT_.out zG88) zG89 (fun K hK => ?_)
    refine goes_ Try.func28 zG88 rfl #[.agg #[.int .i64 ((rd_T34 l0 x5_1).f0), .int .i64 ((rd_T34 l0 x5_1).f1)], .agg #[.int .i64 ((rd_T34 l1 x5_1).f0), .int .i64 ((rd_T34 l1 x5_1).f1)]] (by rfl) rfl rfl zG63 ?_
    with_reducible refine (laws_eqCartObs.calls ((rd_T34 l0 x5_1).f0) ((rd_T34 l0 x5_1).f1) ((rd_T34 l1 x5_1).f0) ((rd_T34 l1 x5_1).f1) false _ A7.out).mono ?_
    rintro e w12 ⟨rfl, hb⟩
    refine ⟨_, rfl, ?_⟩
    have n0_ := za (zt zG70 hb)
    clear HB
    have HB := n0_
    clear n0_
    (try clear hb)
    (try clear hb2)
    (try clear hk)
    (try clear hi)
    refine hK.out _ _ ⟨((HB.out.cell (zj w _ hw222_0)).trans hw222_0), ((HB.out.cell (zj w _ hw222_1)).trans hw222_1), ((HB.out.cell (zj w _ hw223_0)).trans hw223_0), ((HB.out.cell (zj w _ hw223_1)).trans hw223_1)⟩ (fun hHeld => ?_)
    clear hK K
    refine norm_ (a' := ?_) ?_ ?_
    rotate_left
    ·show Act.put _ (some 25) _ = _
     simp only [Act.put, List.setIfInBounds_toArray, List.set_cons_zero, List.set_cons_succ, i64_w, i32_w]
     rfl
    refine zP 9 26 b6A10 HT_ ?_
    refine done_ (done_of HT_.out zG88) ?_
    try go_wp2
    go_ret
    exact zH21
   subst c8
   have H1 : (laws_eqCartObsS.l0 k1 l0 l1 (wrap64 (x5_1 + 1))) = some r := by rw [if_pos rfl] at H; exact H
   clear H
   have H := H1
   clear H1
   have H' := za H
   clear H
   try go_wp2
   have n0_ := za (zi HB.out)
   clear HB
   have HB := n0_
   clear n0_
   have p222 : 0 ≤ (x5_1 : Int) := zO
   have q222 : x5_1 < (l0.length : Int) := zO
   obtain ⟨ad222, e222, hx222_0, hx222_1⟩ := at_T34 HR0.out x5_1 p222 q222
   have hw222_1 := hx222_1
   have hw222_0 := hx222_0
   cases e222
   replace hx222_0 := (HB.out.cell (zj w _ hx222_0)).trans hx222_0
   replace hx222_1 := (HB.out.cell (zj w _ hx222_1)).trans hx222_1
   replace p222 := eq_true p222
   replace q222 := eq_true q222
   have p223 : 0 ≤ (x5_1 : Int) := zO
   have q223 : x5_1 < (l1.length : Int) := zO
   obtain ⟨ad223, e223, hx223_0, hx223_1⟩ := at_T34 HR1.out x5_1 p223 q223
   have hw223_1 := hx223_1
   have hw223_0 := hx223_0
   cases e223
   replace hx223_0 := (HB.out.cell (zj w _ hx223_0)).trans hx223_0
   replace hx223_1 := (HB.out.cell (zj w _ hx223_1)).trans hx223_1
   replace p223 := eq_true p223
   replace q223 := eq_true q223
   refine start_ (n := 10) (S := fun w' => w'.cell? (ad222.add ((x5_1).toNat * 2)) = some (.int .i64 ((rd_T34 l0 x5_1).f0)) ∧ w'.cell? ⟨(ad222.add ((x5_1).toNat * 2)).block, (ad222.add ((x5_1).toNat * 2)).off + 1, none⟩ = some (.int .i64 ((rd_T34 l0 x5_1).f1)) ∧ w'.cell? (ad223.add ((x5_1).toNat * 2)) = some (.int .i64 ((rd_T34 l1 x5_1).f0)) ∧ w'.cell? ⟨(ad223.add ((x5_1).toNat * 2)).block, (ad223.add ((x5_1).toNat * 2)).off + 1, none⟩ = some (.int .i64 ((rd_T34 l1 x5_1).f1))) (ds := []) b6A0 zG88 rfl rfl ⟨((HB.out.cell (zj w _ hw222_0)).trans hw222_0), ((HB.out.cell (zj w _ hw222_1)).trans hw222_1), ((HB.out.cell (zj w _ hw223_0)).trans hw223_0), ((HB.out.cell (zj w _ hw223_1)).trans hw223_1)⟩ (fun hHeld => ?_); refine with_tabW laws_eqCartObsS.tab6 laws_eqCartObsS.bits6 (fun HT_ HW_ => ?_)
   generalize wr.drew = w9 at HB hx222_0 hx222_1 hx223_0 hx223_1 hHeld ⊢
   refine zP 0 17 b6A1 HT_ ?_
   refine zP 1 18 b6A2 HT_ ?_
   refine zP 2 19 b6A3 HT_ ?_
   refine zP 4 21 b6A4 HT_ ?_
   refine zP 5 22 b6A5 HT_ ?_
   refine zP 6 23 b6A6 HT_ ?_
   refine zQ 3 20 b6A7 HT_ HW_ hHeld ?_
   refine zQ 7 24 b6A8 HT_ HW_ hHeld ?_
   refine one_ (i := 8) (N := some 25) b6A9 rfl rfl (one_of HT_.out zG88) zG89 (fun K hK => ?_)
   refine goes_ Try.func28 zG88 rfl #[.agg #[.int .i64 ((rd_T34 l0 x5_1).f0), .int .i64 ((rd_T34 l0 x5_1).f1)], .agg #[.int .i64 ((rd_T34 l1 x5_1).f0), .int .i64 ((rd_T34 l1 x5_1).f1)]] (by rfl) rfl rfl zG63 ?_
   with_reducible refine (laws_eqCartObs.calls ((rd_T34 l0 x5_1).f0) ((rd_T34 l0 x5_1).f1) ((rd_T34 l1 x5_1).f0) ((rd_T34 l1 x5_1).f1) true _ A7.out).mono ?_
   rintro e w10 ⟨rfl, hb⟩
   refine ⟨_, rfl, ?_⟩
   have n0_ := za (zt zG70 hb)
   clear HB
   have HB := n0_
   clear n0_
   (try clear hb)
   (try clear hb2)
   (try clear hk)
   (try clear hi)
   refine hK.out _ _ ⟨((HB.out.cell (zj w _ hw222_0)).trans hw222_0), ((HB.out.cell (zj w _ hw222_1)).trans hw222_1), ((HB.out.cell (zj w _ hw223_0)).trans hw223_0), ((HB.out.cell (zj w _ hw223_1)).trans hw223_1)⟩ (fun hHeld => ?_)
   clear hK K
   refine norm_ (a' := ?_) ?_ ?_
   rotate_left
   ·show Act.put _ (some 25) _ = _
    simp only [Act.put, List.setIfInBounds_toArray, List.set_cons_zero, List.set_cons_succ, i64_w, i32_w]
    rfl
   refine zP 9 26 b6A10 HT_ ?_
   refine done_ (done_of HT_.out zG88) ?_
   try go_wp2
   go_roundg k1
   case measure => have := HK1.out; omega
   case rel => exact ⟨(wrap64 (x5_1 + 1)), zG87, H', ⟨zH94⟩, ⟨zH65⟩⟩
/-! ### laws_eqCartHold: function 41 -/
def laws_eqCartHold.f (a0_0 : Int) (a0_1 : Int) (a0_2 : Int) (a1_0 : Int) (a1_1 : Int) (a1_2 : Int) : Option (Bool) := if a0_0 = a1_0 then (if a0_1 = a1_1 then (if a0_2 = a1_2 then (some true) else (some false)) else (some false)) else (some false)
set_option maxHeartbeats 64000000 in
set_option maxRecDepth 100000 in
theorem laws_eqCartHold.calls (a0_0 : Int) (a0_1 : Int) (a0_2 : Int) (a1_0 : Int) (a1_1 : Int) (a1_2 : Int) (r : Bool) (w : World) (h : laws_eqCartHold.f a0_0 a0_1 a0_2 a1_0 a1_1 a1_2 = some r) :
  Calls Try.prog 41 #[.agg #[.int .i64 a0_0, .int .i64 a0_1, .int .i64 a0_2], .agg #[.int .i64 a1_0, .int .i64 a1_1, .int .i64 a1_2]] w fun e w' => e = .returned (.bool r) ∧ Below w.heap.size w w' := by
 have hu36 := Try.underlying36
 have HB := za (Below.refl w.heap.size w)
 have H : (if a0_0 = a1_0 then (if a0_1 = a1_1 then (if a0_2 = a1_2 then (some true) else (some false)) else (some false)) else (some false)) = some r := h
 clear h
 by_cases c3 : a0_0 = a1_0
 rotate_left
 ·rw [if_neg c3] at H
  have c3b0 : (a0_0 == a1_0) = false := beq_eq_false_iff_ne.mpr c3
  have c3b1 : (a0_0 != a1_0) = true := bne_iff_ne.mpr c3
  obtain rfl := Option.some.inj H
  go_enter Try.func41, Try.ntmps41
  go_wp2_with (first | ((with_reducible refine gate_dst (N := 2) rfl ?_); refine box_event ?hg (N := 2) ?hd (cs := #[.int .i64 a0_0, .int .i64 a0_1, .int .i64 a0_2]) (t := 36) ?hr ?_; (case hd => rfl); (case hg => rfl); (case hr => exact zH89); intro gb225 hg w21 hbox hb; have n_ := zA_ (za (zt zG70 hb)) (zA_ (za (hbox)) (zA_ (zN1 w.heap.size hg (zs zG70)) (zN1 w.heap.size hg (zs zG70)))); clear HB; obtain ⟨HB, BK225, GW225, GE225⟩ := n_; clear hb hbox hg) | ((with_reducible refine gate_dst (N := 3) rfl ?_); refine box_event ?hg (N := 3) ?hd (cs := #[.int .i64 a1_0, .int .i64 a1_1, .int .i64 a1_2]) (t := 36) ?hr ?_; (case hd => rfl); (case hg => rfl); (case hr => exact zH89); intro gb226 hg w22 hbox hb; have n_ := zA_ (za (zq (g := gb225) (o := .cells #[.int .i64 a0_0, .int .i64 a0_1, .int .i64 a0_2] 36 (0, 0)) zK157 hb)) (zA_ (za (zt zG67 hb)) (zA_ (za (hbox)) (zA_ (zN1 w.heap.size hg (zs zG67)) (zA_ (zN1 w.heap.size hg (zs zG67)) (zN2 hg (zx (g := gb225) (o := .cells #[.int .i64 a0_0, .int .i64 a0_1, .int .i64 a0_2] 36 (0, 0)) zK157)))))); clear BK225 HB; obtain ⟨BK225, HB, BK226, GW226, GE226, NB225_226, NB226_225⟩ := n_; clear hb hbox hg; have hnb23 := NB225_226.out; have hnc23 := NB226_225.out; obtain ⟨hcz24_0, hcz24_1, hcz24_2, hfz24_0, hfz24_1, hfz24_2⟩ := zB3 BK225.out; obtain ⟨hcz25_0, hcz25_1, hcz25_2, hfz25_0, hfz25_1, hfz25_2⟩ := zB3 BK226.out))
  go_ret
  exact zH13

 rw [if_pos c3] at H
 have c3b0 : (a0_0 == a1_0) = true := beq_iff_eq.mpr c3
 have c3b1 : (a0_0 != a1_0) = false := bne_eq_false_iff_eq.mpr c3
 clear c3
 by_cases c4 : a0_1 = a1_1
 rotate_left
 ·rw [if_neg c4] at H
  have c4b0 : (a0_1 == a1_1) = false := beq_eq_false_iff_ne.mpr c4
  have c4b1 : (a0_1 != a1_1) = true := bne_iff_ne.mpr c4
  obtain rfl := Option.some.inj H
  go_enter Try.func41, Try.ntmps41
  go_wp2_with (first | ((with_reducible refine gate_dst (N := 2) rfl ?_); refine box_event ?hg (N := 2) ?hd (cs := #[.int .i64 a0_0, .int .i64 a0_1, .int .i64 a0_2]) (t := 36) ?hr ?_; (case hd => rfl); (case hg => rfl); (case hr => exact zH89); intro gb225 hg w16 hbox hb; have n_ := zA_ (za (zt zG70 hb)) (zA_ (za (hbox)) (zA_ (zN1 w.heap.size hg (zs zG70)) (zN1 w.heap.size hg (zs zG70)))); clear HB; obtain ⟨HB, BK225, GW225, GE225⟩ := n_; clear hb hbox hg) | ((with_reducible refine gate_dst (N := 3) rfl ?_); refine box_event ?hg (N := 3) ?hd (cs := #[.int .i64 a1_0, .int .i64 a1_1, .int .i64 a1_2]) (t := 36) ?hr ?_; (case hd => rfl); (case hg => rfl); (case hr => exact zH89); intro gb226 hg w17 hbox hb; have n_ := zA_ (za (zq (g := gb225) (o := .cells #[.int .i64 a0_0, .int .i64 a0_1, .int .i64 a0_2] 36 (0, 0)) zK157 hb)) (zA_ (za (zt zG67 hb)) (zA_ (za (hbox)) (zA_ (zN1 w.heap.size hg (zs zG67)) (zA_ (zN1 w.heap.size hg (zs zG67)) (zN2 hg (zx (g := gb225) (o := .cells #[.int .i64 a0_0, .int .i64 a0_1, .int .i64 a0_2] 36 (0, 0)) zK157)))))); clear BK225 HB; obtain ⟨BK225, HB, BK226, GW226, GE226, NB225_226, NB226_225⟩ := n_; clear hb hbox hg; have hnb18 := NB225_226.out; have hnc18 := NB226_225.out; obtain ⟨hcz19_0, hcz19_1, hcz19_2, hfz19_0, hfz19_1, hfz19_2⟩ := zB3 BK225.out; obtain ⟨hcz20_0, hcz20_1, hcz20_2, hfz20_0, hfz20_1, hfz20_2⟩ := zB3 BK226.out))
  go_ret
  exact zH13
 rw [if_pos c4] at H
 have c4b0 : (a0_1 == a1_1) = true := beq_iff_eq.mpr c4
 have c4b1 : (a0_1 != a1_1) = false := bne_eq_false_iff_eq.mpr c4
 clear c4
 by_cases c5 : a0_2 = a1_2
 rotate_left
 ·rw [if_neg c5] at H
  have c5b0 : (a0_2 == a1_2) = false := beq_eq_false_iff_ne.mpr c5
  have c5b1 : (a0_2 != a1_2) = true := bne_iff_ne.mpr c5
  obtain rfl := Option.some.inj H
  go_enter Try.func41, Try.ntmps41
  go_wp2_with (first | ((with_reducible refine gate_dst (N := 2) rfl ?_); refine box_event ?hg (N := 2) ?hd (cs := #[.int .i64 a0_0, .int .i64 a0_1, .int .i64 a0_2]) (t := 36) ?hr ?_; (case hd => rfl); (case hg => rfl); (case hr => exact zH89); intro gb225 hg w11 hbox hb; have n_ := zA_ (za (zt zG70 hb)) (zA_ (za (hbox)) (zA_ (zN1 w.heap.size hg (zs zG70)) (zN1 w.heap.size hg (zs zG70)))); clear HB; obtain ⟨HB, BK225, GW225, GE225⟩ := n_; clear hb hbox hg) | ((with_reducible refine gate_dst (N := 3) rfl ?_); refine box_event ?hg (N := 3) ?hd (cs := #[.int .i64 a1_0, .int .i64 a1_1, .int .i64 a1_2]) (t := 36) ?hr ?_; (case hd => rfl); (case hg => rfl); (case hr => exact zH89); intro gb226 hg w12 hbox hb; have n_ := zA_ (za (zq (g := gb225) (o := .cells #[.int .i64 a0_0, .int .i64 a0_1, .int .i64 a0_2] 36 (0, 0)) zK157 hb)) (zA_ (za (zt zG67 hb)) (zA_ (za (hbox)) (zA_ (zN1 w.heap.size hg (zs zG67)) (zA_ (zN1 w.heap.size hg (zs zG67)) (zN2 hg (zx (g := gb225) (o := .cells #[.int .i64 a0_0, .int .i64 a0_1, .int .i64 a0_2] 36 (0, 0)) zK157)))))); clear BK225 HB; obtain ⟨BK225, HB, BK226, GW226, GE226, NB225_226, NB226_225⟩ := n_; clear hb hbox hg; have hnb13 := NB225_226.out; have hnc13 := NB226_225.out; obtain ⟨hcz14_0, hcz14_1, hcz14_2, hfz14_0, hfz14_1, hfz14_2⟩ := zB3 BK225.out; obtain ⟨hcz15_0, hcz15_1, hcz15_2, hfz15_0, hfz15_1, hfz15_2⟩ := zB3 BK226.out))
  go_ret
  exact zH13
 rw [if_pos c5] at H
 have c5b0 : (a0_2 == a1_2) = true := beq_iff_eq.mpr c5
 have c5b1 : (a0_2 != a1_2) = false := bne_eq_false_iff_eq.mpr c5
 clear c5
 obtain rfl := Option.some.inj H
 go_enter Try.func41, Try.ntmps41
 go_wp2_with (first | ((with_reducible refine gate_dst (N := 2) rfl ?_); refine box_event ?hg (N := 2) ?hd (cs := #[.int .i64 a0_0, .int .i64 a0_1, .int .i64 a0_2]) (t := 36) ?hr ?_; (case hd => rfl); (case hg => rfl); (case hr => exact zH89); intro gb225 hg w6 hbox hb; have n_ := zA_ (za (zt zG70 hb)) (zA_ (za (hbox)) (zA_ (zN1 w.heap.size hg (zs zG70)) (zN1 w.heap.size hg (zs zG70)))); clear HB; obtain ⟨HB, BK225, GW225, GE225⟩ := n_; clear hb hbox hg) | ((with_reducible refine gate_dst (N := 3) rfl ?_); refine box_event ?hg (N := 3) ?hd (cs := #[.int .i64 a1_0, .int .i64 a1_1, .int .i64 a1_2]) (t := 36) ?hr ?_; (case hd => rfl); (case hg => rfl); (case hr => exact zH89); intro gb226 hg w7 hbox hb; have n_ := zA_ (za (zq (g := gb225) (o := .cells #[.int .i64 a0_0, .int .i64 a0_1, .int .i64 a0_2] 36 (0, 0)) zK157 hb)) (zA_ (za (zt zG67 hb)) (zA_ (za (hbox)) (zA_ (zN1 w.heap.size hg (zs zG67)) (zA_ (zN1 w.heap.size hg (zs zG67)) (zN2 hg (zx (g := gb225) (o := .cells #[.int .i64 a0_0, .int .i64 a0_1, .int .i64 a0_2] 36 (0, 0)) zK157)))))); clear BK225 HB; obtain ⟨BK225, HB, BK226, GW226, GE226, NB225_226, NB226_225⟩ := n_; clear hb hbox hg; have hnb8 := NB225_226.out; have hnc8 := NB226_225.out; obtain ⟨hcz9_0, hcz9_1, hcz9_2, hfz9_0, hfz9_1, hfz9_2⟩ := zB3 BK225.out; obtain ⟨hcz10_0, hcz10_1, hcz10_2, hfz10_0, hfz10_1, hfz10_2⟩ := zB3 BK226.out))
 go_ret
 exact zH13
/-! ### laws_eqCartHoldS: function 29 -/
def laws_eqCartHoldS.l0 : Nat → List (S36) → List (S36) → Int → Option (Bool)
 | 0, _, _, _ => none
 | k + 1, x0, x1, x5 => if x5 < (x0.length : Int) then (if 0 ≤ x5 then (if x5 < (x1.length : Int) then ((laws_eqCartHold.f ((rd_T36 x0 x5).f0) ((rd_T36 x0 x5).f1) ((rd_T36 x0 x5).f2) ((rd_T36 x1 x5).f0) ((rd_T36 x1 x5).f1) ((rd_T36 x1 x5).f2)).bind fun t229 => (if t229 = true then (laws_eqCartHoldS.l0 k x0 x1 (wrap64 (x5 + 1))) else (some false))) else (none)) else (none)) else (some true)
def laws_eqCartHoldS.f (k : Nat) (l0 : List (S36)) (l1 : List (S36)) : Option (Bool) := if (l0.length : Int) = (l1.length : Int) then (laws_eqCartHoldS.l0 k l0 l1 0) else (some false)
theorem laws_eqCartHoldS.mono_l : ∀ k, (∀ y0 y1 y2, LeO (laws_eqCartHoldS.l0 k y0 y1 y2) (laws_eqCartHoldS.l0 (k + 1) y0 y1 y2))
 | 0 => fun _ _ _ r h => by simp [laws_eqCartHoldS.l0] at h
 | k + 1 => by
  have ih0 := laws_eqCartHoldS.mono_l k
  ·intro y0 y1 y2
   unfold laws_eqCartHoldS.l0
   repeat' first
   | (with_reducible exact ih0 _ _ _)
   | (with_reducible exact LeO.refl _)
   | (with_reducible exact LeO.none _)
   | (with_reducible refine LeO.ite ?_ ?_)
   | (with_reducible refine LeO.bind ?_ (fun _ => ?_))
   | exact ih0 _ _ _
   | exact LeO.none _
   | refine LeO.ite ?_ ?_
   | refine LeO.bind ?_ (fun _ => ?_)
theorem laws_eqCartHoldS.mono : ∀ a0 a1 k, LeO (laws_eqCartHoldS.f k a0 a1) (laws_eqCartHoldS.f (k + 1) a0 a1) := by
 intro a0 a1 k
 have ih0 := laws_eqCartHoldS.mono_l k
 unfold laws_eqCartHoldS.f
 repeat' first
   | (with_reducible exact ih0 _ _ _)
   | (with_reducible exact LeO.refl _)
   | (with_reducible exact LeO.none _)
   | (with_reducible refine LeO.ite ?_ ?_)
   | (with_reducible refine LeO.bind ?_ (fun _ => ?_))
   | exact ih0 _ _ _
   | exact LeO.none _
   | refine LeO.ite ?_ ?_
   | refine LeO.bind ?_ (fun _ => ?_)
def laws_eqCartHoldS.T6 : Bool × List (List Nat × List Nat) := (true, [([], []), ([], []), ([0, 1], [0, 1]), ([2], [2]), ([], []), ([], []), ([4, 5], [4, 5]), ([6], [6]), ([3, 7], [3, 7]), ([8], [8])])
def laws_eqCartHoldS.B6 : List Nat := [0, 0, 3, 7, 0, 0, 48, 112, 255, 511]
theorem laws_eqCartHoldS.tab6 : rtab .any (opsOf Try.f29 6) = laws_eqCartHoldS.T6 := by kernel_rfl
theorem laws_eqCartHoldS.bits6 : waitsOk laws_eqCartHoldS.T6.2 laws_eqCartHoldS.B6 = true := by kernel_rfl
set_option maxHeartbeats 64000000 in
set_option maxRecDepth 100000 in
theorem laws_eqCartHoldS.calls (k : Nat) (A0 : Option Addr) (c0 : Nat) (l0 : List (S36)) (A1 : Option Addr) (c1 : Nat) (l1 : List (S36)) (r : Bool) (w : World) (hr0 : Kd.C k36 w A0 l0.length l0) (hc0 : l0.length ≤ c0) (hr1 : Kd.C k36 w A1 l1.length l1) (hc1 : l1.length ≤ c1) (h : laws_eqCartHoldS.f k l0 l1 = some r) :
  Calls Try.prog 29 #[.slice A0 l0.length c0, .slice A1 l1.length c1] w fun e w' => e = .returned (.bool r) ∧ Below w.heap.size w w' := by
 have hu36 := Try.underlying36
 obtain ⟨HR0, HC0, HR1, HC1, HB⟩ := zD5 hr0 hc0 hr1 hc1 (Below.refl w.heap.size w)
 clear hr0 hc0 hr1 hc1
 have H : (if (l0.length : Int) = (l1.length : Int) then (laws_eqCartHoldS.l0 k l0 l1 0) else (some false)) = some r := h
 clear h
 by_cases c3 : (l0.length : Int) = (l1.length : Int)
 rotate_left
 ·rw [if_neg c3] at H
  have c3b0 : ((l0.length : Int) == (l1.length : Int)) = false := beq_eq_false_iff_ne.mpr c3
  have c3b1 : ((l0.length : Int) != (l1.length : Int)) = true := bne_iff_ne.mpr c3
  have c3b2 : (l0.length == l1.length) = false := by first | simpa using c3 | (simp at c3 ⊢; omega)
  obtain rfl := Option.some.inj H
  go_enter Try.func29, Try.ntmps29
  go_wp2
  go_ret
  exact zH21

 rw [if_pos c3] at H
 have c3b0 : ((l0.length : Int) == (l1.length : Int)) = true := beq_iff_eq.mpr c3
 have c3b1 : ((l0.length : Int) != (l1.length : Int)) = false := bne_eq_false_iff_eq.mpr c3
 have c3b2 : (l0.length == l1.length) = true := by first | simpa using c3 | (simp at c3 ⊢; omega)
 clear c3
 have H' := za H
 clear H
 go_enter Try.func29, Try.ntmps29
 go_wp2
 go_loopg [5] k (fun kq v5 w' => ∃ (x5_1 : Int), v5 = .int .i64 x5_1 ∧ Aside0 (laws_eqCartHoldS.l0 kq l0 l1 x5_1 = some r) ∧ Aside0 (kq ≤ k) ∧ Aside0 (Below w.heap.size w w'))
 case atStart => exact ⟨(0), zG87, H', ⟨Nat.le_refl _⟩, ⟨zH65⟩⟩
 case round =>
  clear H'
  try clear c1
  try clear c3
  try clear c3b0
  try clear c3b1
  try clear c3b2
  obtain ⟨x5_1, rfl, HA, HK1, HB⟩ := hrel
  cases gk with
  | zero => exact absurd HA.out (by simp [laws_eqCartHoldS.l0])
  | succ k1 =>
   have H := HA.out
   clear HA
   simp only [laws_eqCartHoldS.l0] at H
   by_cases c4 : x5_1 < (l0.length : Int)
   rotate_left
   ·rw [if_neg c4] at H
    have c4b0 := decide_eq_false c4
    clear c4
    obtain rfl := Option.some.inj H
    go_wp2
    go_ret
    exact zH21
   rw [if_pos c4] at H
   have c4b0 := decide_eq_true c4
   clear c4
   by_cases c5 : 0 ≤ x5_1
   rotate_left
   ·rw [if_neg c5] at H
    exact absurd H (by simp)
   rw [if_pos c5] at H
   have c5b0 := decide_eq_true c5
   clear c5
   by_cases c6 : x5_1 < (l1.length : Int)
   rotate_left
   ·rw [if_neg c6] at H
    exact absurd H (by simp)
   rw [if_pos c6] at H
   have c6b0 := decide_eq_true c6
   clear c6
   replace H := Option.bind_eq_some_iff.mp H
   obtain ⟨t229, A70, H⟩ := H
   replace H : (if t229 = true then (laws_eqCartHoldS.l0 k1 l0 l1 (wrap64 (x5_1 + 1))) else (some false)) = some r := H
   have A7 := za A70
   clear A70
   by_cases c8 : t229 = true
   rotate_left
   ·replace c8 := Bool.eq_false_iff.mpr c8
    subst c8
    have H1 : (some false) = some r := by rw [if_neg (show ¬ (false = true) by decide)] at H; exact H
    clear H
    have H := H1
    clear H1
    obtain rfl := Option.some.inj H
    try go_wp2
    have n0_ := za (zi HB.out)
    clear HB
    have HB := n0_
    clear n0_
    have p227 : 0 ≤ (x5_1 : Int) := zO
    have q227 : x5_1 < (l0.length : Int) := zO
    obtain ⟨ad227, e227, hx227_0, hx227_1, hx227_2⟩ := at_T36 HR0.out x5_1 p227 q227
    have hw227_2 := hx227_2
    have hw227_1 := hx227_1
    have hw227_0 := hx227_0
    cases e227
    replace hx227_0 := (HB.out.cell (zj w _ hx227_0)).trans hx227_0
    replace hx227_1 := (HB.out.cell (zj w _ hx227_1)).trans hx227_1
    replace hx227_2 := (HB.out.cell (zj w _ hx227_2)).trans hx227_2
    replace p227 := eq_true p227
    replace q227 := eq_true q227
    have p228 : 0 ≤ (x5_1 : Int) := zO
    have q228 : x5_1 < (l1.length : Int) := zO
    obtain ⟨ad228, e228, hx228_0, hx228_1, hx228_2⟩ := at_T36 HR1.out x5_1 p228 q228
    have hw228_2 := hx228_2
    have hw228_1 := hx228_1
    have hw228_0 := hx228_0
    cases e228
    replace hx228_0 := (HB.out.cell (zj w _ hx228_0)).trans hx228_0
    replace hx228_1 := (HB.out.cell (zj w _ hx228_1)).trans hx228_1
    replace hx228_2 := (HB.out.cell (zj w _ hx228_2)).trans hx228_2
    replace p228 := eq_true p228
    replace q228 := eq_true q228
    refine start_ (n := 10) (S := fun w' => w'.cell? (ad227.add ((x5_1).toNat * 3)) = some (.int .i64 ((rd_T36 l0 x5_1).f0)) ∧ w'.cell? ⟨(ad227.add ((x5_1).toNat * 3)).block, (ad227.add ((x5_1).toNat * 3)).off + 1, none⟩ = some (.int .i64 ((rd_T36 l0 x5_1).f1)) ∧ w'.cell? ⟨(ad227.add ((x5_1).toNat * 3)).block, (ad227.add ((x5_1).toNat * 3)).off + 2, none⟩ = some (.int .i64 ((rd_T36 l0 x5_1).f2)) ∧ w'.cell? (ad228.add ((x5_1).toNat * 3)) = some (.int .i64 ((rd_T36 l1 x5_1).f0)) ∧ w'.cell? ⟨(ad228.add ((x5_1).toNat * 3)).block, (ad228.add ((x5_1).toNat * 3)).off + 1, none⟩ = some (.int .i64 ((rd_T36 l1 x5_1).f1)) ∧ w'.cell? ⟨(ad228.add ((x5_1).toNat * 3)).block, (ad228.add ((x5_1).toNat * 3)).off + 2, none⟩ = some (.int .i64 ((rd_T36 l1 x5_1).f2))) (ds := []) b6A0 zG88 rfl rfl ⟨((HB.out.cell (zj w _ hw227_0)).trans hw227_0), ((HB.out.cell (zj w _ hw227_1)).trans hw227_1), ((HB.out.cell (zj w _ hw227_2)).trans hw227_2), ((HB.out.cell (zj w _ hw228_0)).trans hw228_0), ((HB.out.cell (zj w _ hw228_1)).trans hw228_1), ((HB.out.cell (zj w _ hw228_2)).trans hw228_2)⟩ (fun hHeld => ?_); refine with_tabW laws_eqCartHoldS.tab6 laws_eqCartHoldS.bits6 (fun HT_ HW_ => ?_)
    generalize wr.drew = w11 at HB hx227_0 hx227_1 hx227_2 hx228_0 hx228_1 hx228_2 hHeld ⊢
    refine zP 0 17 b6A1 HT_ ?_
    refine zP 1 18 b6A2 HT_ ?_
    refine zP 2 19 b6A3 HT_ ?_
    refine zP 4 21 b6A4 HT_ ?_
    refine zP 5 22 b6A5 HT_ ?_
    refine zP 6 23 b6A6 HT_ ?_
    refine zQ 3 20 b6A7 HT_ HW_ hHeld ?_
    refine zQ 7 24 b6A8 HT_ HW_ hHeld ?_
    refine one_ (i := 8) (N := some 25) b6A9 rfl rfl (one_of HT_.out zG88) zG89 (fun K hK => ?_)
    refine goes_ Try.func41 zG88 rfl #[.agg #[.int .i64 ((rd_T36 l0 x5_1).f0), .int .i64 ((rd_T36 l0 x5_1).f1), .int .i64 ((rd_T36 l0 x5_1).f2)], .agg #[.int .i64 ((rd_T36 l1 x5_1).f0), .int .i64 ((rd_T36 l1 x5_1).f1), .int .i64 ((rd_T36 l1 x5_1).f2)]] (by rfl) rfl rfl zG63 ?_
    with_reducible refine (laws_eqCartHold.calls ((rd_T36 l0 x5_1).f0) ((rd_T36 l0 x5_1).f1) ((rd_T36 l0 x5_1).f2) ((rd_T36 l1 x5_1).f0) ((rd_T36 l1 x5_1).f1) ((rd_T36 l1 x5_1).f2) false _ A7.out).mono ?_
    rintro e w12 ⟨rfl, hb⟩
    refine ⟨_, rfl, ?_⟩
    have n0_ := za (zt zG70 hb)
    clear HB
    have HB := n0_
    clear n0_
    (try clear hb)
    (try clear hb2)
    (try clear hk)
    (try clear hi)
    refine hK.out _ _ ⟨((HB.out.cell (zj w _ hw227_0)).trans hw227_0), ((HB.out.cell (zj w _ hw227_1)).trans hw227_1), ((HB.out.cell (zj w _ hw227_2)).trans hw227_2), ((HB.out.cell (zj w _ hw228_0)).trans hw228_0), ((HB.out.cell (zj w _ hw228_1)).trans hw228_1), ((HB.out.cell (zj w _ hw228_2)).trans hw228_2)⟩ (fun hHeld => ?_)
    clear hK K
    refine norm_ (a' := ?_) ?_ ?_
    rotate_left
    ·show Act.put _ (some 25) _ = _
     simp only [Act.put, List.setIfInBounds_toArray, List.set_cons_zero, List.set_cons_succ, i64_w, i32_w]
     rfl
    refine zP 9 26 b6A10 HT_ ?_
    refine done_ (done_of HT_.out zG88) ?_
    try go_wp2
    go_ret
    exact zH21
   subst c8
   have H1 : (laws_eqCartHoldS.l0 k1 l0 l1 (wrap64 (x5_1 + 1))) = some r := by rw [if_pos rfl] at H; exact H
   clear H
   have H := H1
   clear H1
   have H' := za H
   clear H
   try go_wp2
   have n0_ := za (zi HB.out)
   clear HB
   have HB := n0_
   clear n0_
   have p227 : 0 ≤ (x5_1 : Int) := zO
   have q227 : x5_1 < (l0.length : Int) := zO
   obtain ⟨ad227, e227, hx227_0, hx227_1, hx227_2⟩ := at_T36 HR0.out x5_1 p227 q227
   have hw227_2 := hx227_2
   have hw227_1 := hx227_1
   have hw227_0 := hx227_0
   cases e227
   replace hx227_0 := (HB.out.cell (zj w _ hx227_0)).trans hx227_0
   replace hx227_1 := (HB.out.cell (zj w _ hx227_1)).trans hx227_1
   replace hx227_2 := (HB.out.cell (zj w _ hx227_2)).trans hx227_2
   replace p227 := eq_true p227
   replace q227 := eq_true q227
   have p228 : 0 ≤ (x5_1 : Int) := zO
   have q228 : x5_1 < (l1.length : Int) := zO
   obtain ⟨ad228, e228, hx228_0, hx228_1, hx228_2⟩ := at_T36 HR1.out x5_1 p228 q228
   have hw228_2 := hx228_2
   have hw228_1 := hx228_1
   have hw228_0 := hx228_0
   cases e228
   replace hx228_0 := (HB.out.cell (zj w _ hx228_0)).trans hx228_0
   replace hx228_1 := (HB.out.cell (zj w _ hx228_1)).trans hx228_1
   replace hx228_2 := (HB.out.cell (zj w _ hx228_2)).trans hx228_2
   replace p228 := eq_true p228
   replace q228 := eq_true q228
   refine start_ (n := 10) (S := fun w' => w'.cell? (ad227.add ((x5_1).toNat * 3)) = some (.int .i64 ((rd_T36 l0 x5_1).f0)) ∧ w'.cell? ⟨(ad227.add ((x5_1).toNat * 3)).block, (ad227.add ((x5_1).toNat * 3)).off + 1, none⟩ = some (.int .i64 ((rd_T36 l0 x5_1).f1)) ∧ w'.cell? ⟨(ad227.add ((x5_1).toNat * 3)).block, (ad227.add ((x5_1).toNat * 3)).off + 2, none⟩ = some (.int .i64 ((rd_T36 l0 x5_1).f2)) ∧ w'.cell? (ad228.add ((x5_1).toNat * 3)) = some (.int .i64 ((rd_T36 l1 x5_1).f0)) ∧ w'.cell? ⟨(ad228.add ((x5_1).toNat * 3)).block, (ad228.add ((x5_1).toNat * 3)).off + 1, none⟩ = some (.int .i64 ((rd_T36 l1 x5_1).f1)) ∧ w'.cell? ⟨(ad228.add ((x5_1).toNat * 3)).block, (ad228.add ((x5_1).toNat * 3)).off + 2, none⟩ = some (.int .i64 ((rd_T36 l1 x5_1).f2))) (ds := []) b6A0 zG88 rfl rfl ⟨((HB.out.cell (zj w _ hw227_0)).trans hw227_0), ((HB.out.cell (zj w _ hw227_1)).trans hw227_1), ((HB.out.cell (zj w _ hw227_2)).trans hw227_2), ((HB.out.cell (zj w _ hw228_0)).trans hw228_0), ((HB.out.cell (zj w _ hw228_1)).trans hw228_1), ((HB.out.cell (zj w _ hw228_2)).trans hw228_2)⟩ (fun hHeld => ?_); refine with_tabW laws_eqCartHoldS.tab6 laws_eqCartHoldS.bits6 (fun HT_ HW_ => ?_)
   generalize wr.drew = w9 at HB hx227_0 hx227_1 hx227_2 hx228_0 hx228_1 hx228_2 hHeld ⊢
   refine zP 0 17 b6A1 HT_ ?_
   refine zP 1 18 b6A2 HT_ ?_
   refine zP 2 19 b6A3 HT_ ?_
   refine zP 4 21 b6A4 HT_ ?_
   refine zP 5 22 b6A5 HT_ ?_
   refine zP 6 23 b6A6 HT_ ?_
   refine zQ 3 20 b6A7 HT_ HW_ hHeld ?_
   refine zQ 7 24 b6A8 HT_ HW_ hHeld ?_
   refine one_ (i := 8) (N := some 25) b6A9 rfl rfl (one_of HT_.out zG88) zG89 (fun K hK => ?_)
   refine goes_ Try.func41 zG88 rfl #[.agg #[.int .i64 ((rd_T36 l0 x5_1).f0), .int .i64 ((rd_T36 l0 x5_1).f1), .int .i64 ((rd_T36 l0 x5_1).f2)], .agg #[.int .i64 ((rd_T36 l1 x5_1).f0), .int .i64 ((rd_T36 l1 x5_1).f1), .int .i64 ((rd_T36 l1 x5_1).f2)]] (by rfl) rfl rfl zG63 ?_
   with_reducible refine (laws_eqCartHold.calls ((rd_T36 l0 x5_1).f0) ((rd_T36 l0 x5_1).f1) ((rd_T36 l0 x5_1).f2) ((rd_T36 l1 x5_1).f0) ((rd_T36 l1 x5_1).f1) ((rd_T36 l1 x5_1).f2) true _ A7.out).mono ?_
   rintro e w10 ⟨rfl, hb⟩
   refine ⟨_, rfl, ?_⟩
   have n0_ := za (zt zG70 hb)
   clear HB
   have HB := n0_
   clear n0_
   (try clear hb)
   (try clear hb2)
   (try clear hk)
   (try clear hi)
   refine hK.out _ _ ⟨((HB.out.cell (zj w _ hw227_0)).trans hw227_0), ((HB.out.cell (zj w _ hw227_1)).trans hw227_1), ((HB.out.cell (zj w _ hw227_2)).trans hw227_2), ((HB.out.cell (zj w _ hw228_0)).trans hw228_0), ((HB.out.cell (zj w _ hw228_1)).trans hw228_1), ((HB.out.cell (zj w _ hw228_2)).trans hw228_2)⟩ (fun hHeld => ?_)
   clear hK K
   refine norm_ (a' := ?_) ?_ ?_
   rotate_left
   ·show Act.put _ (some 25) _ = _
    simp only [Act.put, List.setIfInBounds_toArray, List.set_cons_zero, List.set_cons_succ, i64_w, i32_w]
    rfl
   refine zP 9 26 b6A10 HT_ ?_
   refine done_ (done_of HT_.out zG88) ?_
   try go_wp2
   go_roundg k1
   case measure => have := HK1.out; omega
   case rel => exact ⟨(wrap64 (x5_1 + 1)), zG87, H', ⟨zH94⟩, ⟨zH65⟩⟩
end Go.Proofs.Ytdohpbhljifodaa.C
