-- squeezed
-- made by pp.py (wip/tools) out of the translation; Lean checks it
import Derived.Test.YtnkceaibkfbeaaaE0
import Derived.Test.YtnkceaibkfbeaaaE16
namespace Go.Proofs.Ytnkceaibkfbeaaa.E
open Go.RowKit Go.Proofs.YtnkceaibkfbeaaaW.PrintWords Go.Proofs.YtnkceaibkfbeaaaW.PrintLast Go.Proofs.YtnkceaibkfbeaaaW.PrintMore
attribute [local go_sem] max2_int min2_int max_two min_two max_three min_three max_four min_four   -- for this text's walks alone
set_option linter.unusedVariables false
set_option linter.unusedSimpArgs false

abbrev b18A0 := zM 8 0
abbrev b18A1 := zM 8 1
abbrev b18A2 := zM 8 3
abbrev b18A3 := zM 8 7
abbrev b18A4 := zM 8 15
abbrev b18A5 := zM 8 47
abbrev b18A6 := zM 8 63
abbrev b18A7 := zM 8 127
abbrev b18A8 := zM 8 255
/-! ### laws_heldStockLotS: function 33 -/
def laws_heldStockLotS.l0 : Nat → List (S38) → Int → Int → Option (Int)
 | 0, _, _, _ => none
 | k + 1, x0, x1, x5 => if x5 < (x0.length : Int) then (if 0 ≤ x5 then ((laws_markText.f k x1).bind fun t343 => (if ((rd_T38 x0 x5).f0).toList = t343.toList then (if ((rd_T38 x0 x5).f1) = (wrap64 (x1 + 1)) then (if ((rd_T38 x0 x5).f2) = (wrap64 ((wrap64 (x1 + 1)) + 1)) then (if ((rd_T38 x0 x5).f3) = (wrap64 ((wrap64 ((wrap64 (x1 + 1)) + 1)) + 1)) then (if (((rd_T38 x0 x5).f4) != ((Int.tmod (wrap64 ((wrap64 ((wrap64 ((wrap64 (x1 + 1)) + 1)) + 1)) + 1)) 3) == 0)) = true then (some (-1)) else (laws_heldStockLotS.l0 k x0 (wrap64 ((wrap64 ((wrap64 ((wrap64 ((wrap64 (x1 + 1)) + 1)) + 1)) + 1)) + 1)) (wrap64 (x5 + 1)))) else (some (-1))) else (some (-1))) else (some (-1))) else (some (-1)))) else (none)) else (some x1)
def laws_heldStockLotS.f (k : Nat) (l0 : List (S38)) (a1 : Int) : Option (Int) := laws_heldStockLotS.l0 k l0 a1 0
theorem laws_heldStockLotS.mono_l : ∀ k, (∀ y0 y1 y2, LeO (laws_heldStockLotS.l0 k y0 y1 y2) (laws_heldStockLotS.l0 (k + 1) y0 y1 y2))
 | 0 => fun _ _ _ r h => by simp [laws_heldStockLotS.l0] at h
 | k + 1 => by
  have ih0 := laws_heldStockLotS.mono_l k
  ·intro y0 y1 y2
   unfold laws_heldStockLotS.l0
   repeat' first
   | (with_reducible exact ih0 _ _ _)
   | (with_reducible exact laws_markText.mono _ _)
   | (with_reducible exact LeO.refl _)
   | (with_reducible exact LeO.none _)
   | (with_reducible refine LeO.ite ?_ ?_)
   | (with_reducible refine LeO.bind ?_ (fun _ => ?_))
   | exact ih0 _ _ _
   | exact laws_markText.mono _ _
   | exact LeO.none _
   | refine LeO.ite ?_ ?_
   | refine LeO.bind ?_ (fun _ => ?_)
theorem laws_heldStockLotS.mono : ∀ a0 a1 k, LeO (laws_heldStockLotS.f k a0 a1) (laws_heldStockLotS.f (k + 1) a0 a1) := by
 intro a0 a1 k
 have ih0 := laws_heldStockLotS.mono_l k
 unfold laws_heldStockLotS.f
 repeat' first
   | (with_reducible exact ih0 _ _ _)
   | (with_reducible exact laws_markText.mono _ _)
   | (with_reducible exact LeO.refl _)
   | (with_reducible exact LeO.none _)
   | (with_reducible refine LeO.ite ?_ ?_)
   | (with_reducible refine LeO.bind ?_ (fun _ => ?_))
   | exact ih0 _ _ _
   | exact laws_markText.mono _ _
   | exact LeO.none _
   | refine LeO.ite ?_ ?_
   | refine LeO.bind ?_ (fun _ => ?_)
def laws_heldStockLotS.T4 : Bool × List (List Nat × List Nat) := (true, [([], []), ([], []), ([0, 1], [0, 1]), ([2], [2]), ([3], [3]), ([], []), ([5], [5]), ([4, 6], [4, 6])])
def laws_heldStockLotS.B4 : List Nat := [0, 0, 3, 7, 15, 0, 32, 127]
theorem laws_heldStockLotS.tab4 : rtab .any (opsOf Try.f33 4) = laws_heldStockLotS.T4 := by kernel_rfl
theorem laws_heldStockLotS.bits4 : waitsOk laws_heldStockLotS.T4.2 laws_heldStockLotS.B4 = true := by kernel_rfl
set_option maxHeartbeats 64000000 in
set_option maxRecDepth 100000 in
theorem laws_heldStockLotS.calls (k : Nat) (A0 : Option Addr) (c0 : Nat) (l0 : List (S38)) (a1 : Int) (r : Int) (w : World) (hr0 : Kd.C k38 w A0 l0.length l0) (hc0 : l0.length ≤ c0) (h : laws_heldStockLotS.f k l0 a1 = some r) :
  Calls Try.prog 33 #[.slice A0 l0.length c0, .int .i64 a1] w fun e w' => e = .returned (.int .i64 r) ∧ Below w.heap.size w w' := by
 obtain ⟨HR0, HC0, HB⟩ := zD3 hr0 hc0 (Below.refl w.heap.size w)
 clear hr0 hc0
 have H : (laws_heldStockLotS.l0 k l0 a1 0) = some r := h
 clear h
 have H' := za H
 clear H
 go_enter Try.func33, Try.ntmps33
 go_wp2
 go_loopg [1, 5] k (fun kq v1 v5 w' => ∃ (x1_1 : Int) (x5_1 : Int), v1 = .int .i64 x1_1 ∧ v5 = .int .i64 x5_1 ∧ Aside0 (laws_heldStockLotS.l0 kq l0 x1_1 x5_1 = some r) ∧ Aside0 (kq ≤ k) ∧ Aside0 (Below w.heap.size w w'))
 case atStart => exact ⟨(a1), (0), zG82, zG82, H', ⟨Nat.le_refl _⟩, ⟨zH60⟩⟩
 case round =>
  clear H'
  obtain ⟨x1_1, x5_1, rfl, rfl, HA, HK1, HB⟩ := hrel
  cases gk with
  | zero => exact absurd HA.out (by simp [laws_heldStockLotS.l0])
  | succ k1 =>
   have H := HA.out
   clear HA
   simp only [laws_heldStockLotS.l0] at H
   by_cases c3 : x5_1 < (l0.length : Int)
   rotate_left
   ·rw [if_neg c3] at H
    have c3b0 := decide_eq_false c3
    clear c3
    obtain rfl := Option.some.inj H
    go_wp2
    go_ret
    exact zH14

   rw [if_pos c3] at H
   have c3b0 := decide_eq_true c3
   clear c3
   by_cases c4 : 0 ≤ x5_1
   rotate_left
   ·rw [if_neg c4] at H
    exact absurd H (by simp)
   rw [if_pos c4] at H
   have c4b0 := decide_eq_true c4
   clear c4
   replace H := Option.bind_eq_some_iff.mp H
   obtain ⟨t343, A50, H⟩ := H
   replace H : (if ((rd_T38 l0 x5_1).f0).toList = t343.toList then (if ((rd_T38 l0 x5_1).f1) = (wrap64 (x1_1 + 1)) then (if ((rd_T38 l0 x5_1).f2) = (wrap64 ((wrap64 (x1_1 + 1)) + 1)) then (if ((rd_T38 l0 x5_1).f3) = (wrap64 ((wrap64 ((wrap64 (x1_1 + 1)) + 1)) + 1)) then (if (((rd_T38 l0 x5_1).f4) != ((Int.tmod (wrap64 ((wrap64 ((wrap64 ((wrap64 (x1_1 + 1)) + 1)) + 1)) + 1)) 3) == 0)) = true then (some (-1)) else (laws_heldStockLotS.l0 k1 l0 (wrap64 ((wrap64 ((wrap64 ((wrap64 ((wrap64 (x1_1 + 1)) + 1)) + 1)) + 1)) + 1)) (wrap64 (x5_1 + 1)))) else (some (-1))) else (some (-1))) else (some (-1))) else (some (-1))) = some r := H
   have A5 := za A50
   clear A50
   by_cases c6 : ((rd_T38 l0 x5_1).f0).toList = t343.toList
   rotate_left
   ·rw [if_neg c6] at H
    have c6b0 : (((rd_T38 l0 x5_1).f0).toList == t343.toList) = false := beq_eq_false_iff_ne.mpr c6
    have c6b1 : (((rd_T38 l0 x5_1).f0).toList != t343.toList) = true := bne_iff_ne.mpr c6
    obtain rfl := Option.some.inj H
    try go_wp2
    have n0_ := za (zh HB.out)
    clear HB
    have HB := n0_
    clear n0_
    have p342 : 0 ≤ (x5_1 : Int) := zO
    have q342 : x5_1 < (l0.length : Int) := zO
    obtain ⟨ad342, e342, hx342_0, hx342_1, hx342_2, hx342_3, hx342_4⟩ := at_T38 HR0.out x5_1 p342 q342
    have hw342_4 := hx342_4
    have hw342_3 := hx342_3
    have hw342_2 := hx342_2
    have hw342_1 := hx342_1
    have hw342_0 := hx342_0
    cases e342
    replace hx342_0 := (HB.out.cell (zb w _ hx342_0)).trans hx342_0
    replace hx342_1 := (HB.out.cell (zb w _ hx342_1)).trans hx342_1
    replace hx342_2 := (HB.out.cell (zb w _ hx342_2)).trans hx342_2
    replace hx342_3 := (HB.out.cell (zb w _ hx342_3)).trans hx342_3
    replace hx342_4 := (HB.out.cell (zb w _ hx342_4)).trans hx342_4
    replace p342 := eq_true p342
    replace q342 := eq_true q342
    refine start_ (n := 8) (S := fun w' => w'.cell? (ad342.add ((x5_1).toNat * 5)) = some (.string ((rd_T38 l0 x5_1).f0)) ∧ w'.cell? ⟨(ad342.add ((x5_1).toNat * 5)).block, (ad342.add ((x5_1).toNat * 5)).off + 1, none⟩ = some (.int .i64 ((rd_T38 l0 x5_1).f1)) ∧ w'.cell? ⟨(ad342.add ((x5_1).toNat * 5)).block, (ad342.add ((x5_1).toNat * 5)).off + 2, none⟩ = some (.int .i64 ((rd_T38 l0 x5_1).f2)) ∧ w'.cell? ⟨(ad342.add ((x5_1).toNat * 5)).block, (ad342.add ((x5_1).toNat * 5)).off + 3, none⟩ = some (.int .i64 ((rd_T38 l0 x5_1).f3)) ∧ w'.cell? ⟨(ad342.add ((x5_1).toNat * 5)).block, (ad342.add ((x5_1).toNat * 5)).off + 4, none⟩ = some (.bool ((rd_T38 l0 x5_1).f4))) (ds := []) b18A0 zG83 rfl rfl ⟨((HB.out.cell (zb w _ hw342_0)).trans hw342_0), ((HB.out.cell (zb w _ hw342_1)).trans hw342_1), ((HB.out.cell (zb w _ hw342_2)).trans hw342_2), ((HB.out.cell (zb w _ hw342_3)).trans hw342_3), ((HB.out.cell (zb w _ hw342_4)).trans hw342_4)⟩ (fun hHeld => ?_); refine with_tabW laws_heldStockLotS.tab4 laws_heldStockLotS.bits4 (fun HT_ HW_ => ?_)
    generalize wr.drew = w21 at HB hx342_0 hx342_1 hx342_2 hx342_3 hx342_4 hHeld ⊢
    refine zP 0 12 b18A1 HT_ ?_
    refine zP 1 13 b18A2 HT_ ?_
    refine zP 2 14 b18A3 HT_ ?_
    refine zP 3 15 b18A4 HT_ ?_
    refine zP 5 17 b18A5 HT_ ?_
    refine zQ 4 16 b18A6 HT_ HW_ hHeld ?_
    refine one_ (i := 6) (N := some 18) b18A7 rfl rfl (one_of HT_.out zG83) zG84 (fun K hK => ?_)
    refine goes_ Try.func31 zG83 rfl #[.int .i64 x1_1] (by rfl) rfl rfl zG54 ?_
    with_reducible refine (laws_markText.calls k1 x1_1 t343 _ A5.out).mono ?_
    rintro e w22 ⟨rfl, hb⟩
    refine ⟨_, rfl, ?_⟩
    have n0_ := za (zr zG60 hb)
    clear HB
    have HB := n0_
    clear n0_
    (try clear hb)
    (try clear hb2)
    (try clear hk)
    (try clear hi)
    refine hK.out _ _ ⟨((HB.out.cell (zb w _ hw342_0)).trans hw342_0), ((HB.out.cell (zb w _ hw342_1)).trans hw342_1), ((HB.out.cell (zb w _ hw342_2)).trans hw342_2), ((HB.out.cell (zb w _ hw342_3)).trans hw342_3), ((HB.out.cell (zb w _ hw342_4)).trans hw342_4)⟩ (fun hHeld => ?_)
    clear hK K
    refine norm_ (a' := ?_) ?_ ?_
    rotate_left
    ·show Act.put _ (some 18) _ = _
     simp only [Act.put, List.setIfInBounds_toArray, List.set_cons_zero, List.set_cons_succ, i64_w, i32_w]
     rfl
    refine zP 7 19 b18A8 HT_ ?_
    refine done_ (done_of HT_.out zG83) ?_
    try go_wp2
    go_ret
    exact zH14
   rw [if_pos c6] at H
   have c6b0 : (((rd_T38 l0 x5_1).f0).toList == t343.toList) = true := beq_iff_eq.mpr c6
   have c6b1 : (((rd_T38 l0 x5_1).f0).toList != t343.toList) = false := bne_eq_false_iff_eq.mpr c6
   clear c6
   by_cases c7 : ((rd_T38 l0 x5_1).f1) = (wrap64 (x1_1 + 1))
   rotate_left
   ·rw [if_neg c7] at H
    have c7b0 : (((rd_T38 l0 x5_1).f1) == (wrap64 (x1_1 + 1))) = false := beq_eq_false_iff_ne.mpr c7
    have c7b1 : (((rd_T38 l0 x5_1).f1) != (wrap64 (x1_1 + 1))) = true := bne_iff_ne.mpr c7
    obtain rfl := Option.some.inj H
    try go_wp2
    have n0_ := za (zh HB.out)
    clear HB
    have HB := n0_
    clear n0_
    have p342 : 0 ≤ (x5_1 : Int) := zO
    have q342 : x5_1 < (l0.length : Int) := zO
    obtain ⟨ad342, e342, hx342_0, hx342_1, hx342_2, hx342_3, hx342_4⟩ := at_T38 HR0.out x5_1 p342 q342
    have hw342_4 := hx342_4
    have hw342_3 := hx342_3
    have hw342_2 := hx342_2
    have hw342_1 := hx342_1
    have hw342_0 := hx342_0
    cases e342
    replace hx342_0 := (HB.out.cell (zb w _ hx342_0)).trans hx342_0
    replace hx342_1 := (HB.out.cell (zb w _ hx342_1)).trans hx342_1
    replace hx342_2 := (HB.out.cell (zb w _ hx342_2)).trans hx342_2
    replace hx342_3 := (HB.out.cell (zb w _ hx342_3)).trans hx342_3
    replace hx342_4 := (HB.out.cell (zb w _ hx342_4)).trans hx342_4
    replace p342 := eq_true p342
    replace q342 := eq_true q342
    refine start_ (n := 8) (S := fun w' => w'.cell? (ad342.add ((x5_1).toNat * 5)) = some (.string ((rd_T38 l0 x5_1).f0)) ∧ w'.cell? ⟨(ad342.add ((x5_1).toNat * 5)).block, (ad342.add ((x5_1).toNat * 5)).off + 1, none⟩ = some (.int .i64 ((rd_T38 l0 x5_1).f1)) ∧ w'.cell? ⟨(ad342.add ((x5_1).toNat * 5)).block, (ad342.add ((x5_1).toNat * 5)).off + 2, none⟩ = some (.int .i64 ((rd_T38 l0 x5_1).f2)) ∧ w'.cell? ⟨(ad342.add ((x5_1).toNat * 5)).block, (ad342.add ((x5_1).toNat * 5)).off + 3, none⟩ = some (.int .i64 ((rd_T38 l0 x5_1).f3)) ∧ w'.cell? ⟨(ad342.add ((x5_1).toNat * 5)).block, (ad342.add ((x5_1).toNat * 5)).off + 4, none⟩ = some (.bool ((rd_T38 l0 x5_1).f4))) (ds := []) b18A0 zG83 rfl rfl ⟨((HB.out.cell (zb w _ hw342_0)).trans hw342_0), ((HB.out.cell (zb w _ hw342_1)).trans hw342_1), ((HB.out.cell (zb w _ hw342_2)).trans hw342_2), ((HB.out.cell (zb w _ hw342_3)).trans hw342_3), ((HB.out.cell (zb w _ hw342_4)).trans hw342_4)⟩ (fun hHeld => ?_); refine with_tabW laws_heldStockLotS.tab4 laws_heldStockLotS.bits4 (fun HT_ HW_ => ?_)
    generalize wr.drew = w19 at HB hx342_0 hx342_1 hx342_2 hx342_3 hx342_4 hHeld ⊢
    refine zP 0 12 b18A1 HT_ ?_
    refine zP 1 13 b18A2 HT_ ?_
    refine zP 2 14 b18A3 HT_ ?_
    refine zP 3 15 b18A4 HT_ ?_
    refine zP 5 17 b18A5 HT_ ?_
    refine zQ 4 16 b18A6 HT_ HW_ hHeld ?_
    refine one_ (i := 6) (N := some 18) b18A7 rfl rfl (one_of HT_.out zG83) zG84 (fun K hK => ?_)
    refine goes_ Try.func31 zG83 rfl #[.int .i64 x1_1] (by rfl) rfl rfl zG54 ?_
    with_reducible refine (laws_markText.calls k1 x1_1 t343 _ A5.out).mono ?_
    rintro e w20 ⟨rfl, hb⟩
    refine ⟨_, rfl, ?_⟩
    have n0_ := za (zr zG60 hb)
    clear HB
    have HB := n0_
    clear n0_
    (try clear hb)
    (try clear hb2)
    (try clear hk)
    (try clear hi)
    refine hK.out _ _ ⟨((HB.out.cell (zb w _ hw342_0)).trans hw342_0), ((HB.out.cell (zb w _ hw342_1)).trans hw342_1), ((HB.out.cell (zb w _ hw342_2)).trans hw342_2), ((HB.out.cell (zb w _ hw342_3)).trans hw342_3), ((HB.out.cell (zb w _ hw342_4)).trans hw342_4)⟩ (fun hHeld => ?_)
    clear hK K
    refine norm_ (a' := ?_) ?_ ?_
    rotate_left
    ·show Act.put _ (some 18) _ = _
     simp only [Act.put, List.setIfInBounds_toArray, List.set_cons_zero, List.set_cons_succ, i64_w, i32_w]
     rfl
    refine zP 7 19 b18A8 HT_ ?_
    refine done_ (done_of HT_.out zG83) ?_
    have p344 : 0 ≤ (x5_1 : Int) := zO
    have q344 : x5_1 < (l0.length : Int) := zO
    obtain ⟨ad344, e344, hx344_0, hx344_1, hx344_2, hx344_3, hx344_4⟩ := at_T38 HR0.out x5_1 p344 q344
    obtain rfl : ad342 = ad344 := (by injection e344)
    replace hx344_0 := (HB.out.cell (zb w _ hx344_0)).trans hx344_0
    replace hx344_1 := (HB.out.cell (zb w _ hx344_1)).trans hx344_1
    replace hx344_2 := (HB.out.cell (zb w _ hx344_2)).trans hx344_2
    replace hx344_3 := (HB.out.cell (zb w _ hx344_3)).trans hx344_3
    replace hx344_4 := (HB.out.cell (zb w _ hx344_4)).trans hx344_4
    replace p344 := eq_true p344
    replace q344 := eq_true q344
    try go_wp2
    go_ret
    exact zH14
   rw [if_pos c7] at H
   have c7b0 : (((rd_T38 l0 x5_1).f1) == (wrap64 (x1_1 + 1))) = true := beq_iff_eq.mpr c7
   have c7b1 : (((rd_T38 l0 x5_1).f1) != (wrap64 (x1_1 + 1))) = false := bne_eq_false_iff_eq.mpr c7
   clear c7
   by_cases c8 : ((rd_T38 l0 x5_1).f2) = (wrap64 ((wrap64 (x1_1 + 1)) + 1))
   rotate_left
   ·rw [if_neg c8] at H
    have c8b0 : (((rd_T38 l0 x5_1).f2) == (wrap64 ((wrap64 (x1_1 + 1)) + 1))) = false := beq_eq_false_iff_ne.mpr c8
    have c8b1 : (((rd_T38 l0 x5_1).f2) != (wrap64 ((wrap64 (x1_1 + 1)) + 1))) = true := bne_iff_ne.mpr c8
    obtain rfl := Option.some.inj H
    try go_wp2
    have n0_ := za (zh HB.out)
    clear HB
    have HB := n0_
    clear n0_
    have p342 : 0 ≤ (x5_1 : Int) := zO
    have q342 : x5_1 < (l0.length : Int) := zO
    obtain ⟨ad342, e342, hx342_0, hx342_1, hx342_2, hx342_3, hx342_4⟩ := at_T38 HR0.out x5_1 p342 q342
    have hw342_4 := hx342_4
    have hw342_3 := hx342_3
    have hw342_2 := hx342_2
    have hw342_1 := hx342_1
    have hw342_0 := hx342_0
    cases e342
    replace hx342_0 := (HB.out.cell (zb w _ hx342_0)).trans hx342_0
    replace hx342_1 := (HB.out.cell (zb w _ hx342_1)).trans hx342_1
    replace hx342_2 := (HB.out.cell (zb w _ hx342_2)).trans hx342_2
    replace hx342_3 := (HB.out.cell (zb w _ hx342_3)).trans hx342_3
    replace hx342_4 := (HB.out.cell (zb w _ hx342_4)).trans hx342_4
    replace p342 := eq_true p342
    replace q342 := eq_true q342
    refine start_ (n := 8) (S := fun w' => w'.cell? (ad342.add ((x5_1).toNat * 5)) = some (.string ((rd_T38 l0 x5_1).f0)) ∧ w'.cell? ⟨(ad342.add ((x5_1).toNat * 5)).block, (ad342.add ((x5_1).toNat * 5)).off + 1, none⟩ = some (.int .i64 ((rd_T38 l0 x5_1).f1)) ∧ w'.cell? ⟨(ad342.add ((x5_1).toNat * 5)).block, (ad342.add ((x5_1).toNat * 5)).off + 2, none⟩ = some (.int .i64 ((rd_T38 l0 x5_1).f2)) ∧ w'.cell? ⟨(ad342.add ((x5_1).toNat * 5)).block, (ad342.add ((x5_1).toNat * 5)).off + 3, none⟩ = some (.int .i64 ((rd_T38 l0 x5_1).f3)) ∧ w'.cell? ⟨(ad342.add ((x5_1).toNat * 5)).block, (ad342.add ((x5_1).toNat * 5)).off + 4, none⟩ = some (.bool ((rd_T38 l0 x5_1).f4))) (ds := []) b18A0 zG83 rfl rfl ⟨((HB.out.cell (zb w _ hw342_0)).trans hw342_0), ((HB.out.cell (zb w _ hw342_1)).trans hw342_1), ((HB.out.cell (zb w _ hw342_2)).trans hw342_2), ((HB.out.cell (zb w _ hw342_3)).trans hw342_3), ((HB.out.cell (zb w _ hw342_4)).trans hw342_4)⟩ (fun hHeld => ?_); refine with_tabW laws_heldStockLotS.tab4 laws_heldStockLotS.bits4 (fun HT_ HW_ => ?_)
    generalize wr.drew = w17 at HB hx342_0 hx342_1 hx342_2 hx342_3 hx342_4 hHeld ⊢
    refine zP 0 12 b18A1 HT_ ?_
    refine zP 1 13 b18A2 HT_ ?_
    refine zP 2 14 b18A3 HT_ ?_
    refine zP 3 15 b18A4 HT_ ?_
    refine zP 5 17 b18A5 HT_ ?_
    refine zQ 4 16 b18A6 HT_ HW_ hHeld ?_
    refine one_ (i := 6) (N := some 18) b18A7 rfl rfl (one_of HT_.out zG83) zG84 (fun K hK => ?_)
    refine goes_ Try.func31 zG83 rfl #[.int .i64 x1_1] (by rfl) rfl rfl zG54 ?_
    with_reducible refine (laws_markText.calls k1 x1_1 t343 _ A5.out).mono ?_
    rintro e w18 ⟨rfl, hb⟩
    refine ⟨_, rfl, ?_⟩
    have n0_ := za (zr zG60 hb)
    clear HB
    have HB := n0_
    clear n0_
    (try clear hb)
    (try clear hb2)
    (try clear hk)
    (try clear hi)
    refine hK.out _ _ ⟨((HB.out.cell (zb w _ hw342_0)).trans hw342_0), ((HB.out.cell (zb w _ hw342_1)).trans hw342_1), ((HB.out.cell (zb w _ hw342_2)).trans hw342_2), ((HB.out.cell (zb w _ hw342_3)).trans hw342_3), ((HB.out.cell (zb w _ hw342_4)).trans hw342_4)⟩ (fun hHeld => ?_)
    clear hK K
    refine norm_ (a' := ?_) ?_ ?_
    rotate_left
    ·show Act.put _ (some 18) _ = _
     simp only [Act.put, List.setIfInBounds_toArray, List.set_cons_zero, List.set_cons_succ, i64_w, i32_w]
     rfl
    refine zP 7 19 b18A8 HT_ ?_
    refine done_ (done_of HT_.out zG83) ?_
    have p344 : 0 ≤ (x5_1 : Int) := zO
    have q344 : x5_1 < (l0.length : Int) := zO
    obtain ⟨ad344, e344, hx344_0, hx344_1, hx344_2, hx344_3, hx344_4⟩ := at_T38 HR0.out x5_1 p344 q344
    obtain rfl : ad342 = ad344 := (by injection e344)
    replace hx344_0 := (HB.out.cell (zb w _ hx344_0)).trans hx344_0
    replace hx344_1 := (HB.out.cell (zb w _ hx344_1)).trans hx344_1
    replace hx344_2 := (HB.out.cell (zb w _ hx344_2)).trans hx344_2
    replace hx344_3 := (HB.out.cell (zb w _ hx344_3)).trans hx344_3
    replace hx344_4 := (HB.out.cell (zb w _ hx344_4)).trans hx344_4
    replace p344 := eq_true p344
    replace q344 := eq_true q344
    have p345 : 0 ≤ (x5_1 : Int) := zO
    have q345 : x5_1 < (l0.length : Int) := zO
    obtain ⟨ad345, e345, hx345_0, hx345_1, hx345_2, hx345_3, hx345_4⟩ := at_T38 HR0.out x5_1 p345 q345
    obtain rfl : ad342 = ad345 := (by injection e345)
    replace hx345_0 := (HB.out.cell (zb w _ hx345_0)).trans hx345_0
    replace hx345_1 := (HB.out.cell (zb w _ hx345_1)).trans hx345_1
    replace hx345_2 := (HB.out.cell (zb w _ hx345_2)).trans hx345_2
    replace hx345_3 := (HB.out.cell (zb w _ hx345_3)).trans hx345_3
    replace hx345_4 := (HB.out.cell (zb w _ hx345_4)).trans hx345_4
    replace p345 := eq_true p345
    replace q345 := eq_true q345
    try go_wp2
    go_ret
    exact zH14
   rw [if_pos c8] at H
   have c8b0 : (((rd_T38 l0 x5_1).f2) == (wrap64 ((wrap64 (x1_1 + 1)) + 1))) = true := beq_iff_eq.mpr c8
   have c8b1 : (((rd_T38 l0 x5_1).f2) != (wrap64 ((wrap64 (x1_1 + 1)) + 1))) = false := bne_eq_false_iff_eq.mpr c8
   clear c8
   by_cases c9 : ((rd_T38 l0 x5_1).f3) = (wrap64 ((wrap64 ((wrap64 (x1_1 + 1)) + 1)) + 1))
   rotate_left
   ·rw [if_neg c9] at H
    have c9b0 : (((rd_T38 l0 x5_1).f3) == (wrap64 ((wrap64 ((wrap64 (x1_1 + 1)) + 1)) + 1))) = false := beq_eq_false_iff_ne.mpr c9
    have c9b1 : (((rd_T38 l0 x5_1).f3) != (wrap64 ((wrap64 ((wrap64 (x1_1 + 1)) + 1)) + 1))) = true := bne_iff_ne.mpr c9
    obtain rfl := Option.some.inj H
    try go_wp2
    have n0_ := za (zh HB.out)
    clear HB
    have HB := n0_
    clear n0_
    have p342 : 0 ≤ (x5_1 : Int) := zO
    have q342 : x5_1 < (l0.length : Int) := zO
    obtain ⟨ad342, e342, hx342_0, hx342_1, hx342_2, hx342_3, hx342_4⟩ := at_T38 HR0.out x5_1 p342 q342
    have hw342_4 := hx342_4
    have hw342_3 := hx342_3
    have hw342_2 := hx342_2
    have hw342_1 := hx342_1
    have hw342_0 := hx342_0
    cases e342
    replace hx342_0 := (HB.out.cell (zb w _ hx342_0)).trans hx342_0
    replace hx342_1 := (HB.out.cell (zb w _ hx342_1)).trans hx342_1
    replace hx342_2 := (HB.out.cell (zb w _ hx342_2)).trans hx342_2
    replace hx342_3 := (HB.out.cell (zb w _ hx342_3)).trans hx342_3
    replace hx342_4 := (HB.out.cell (zb w _ hx342_4)).trans hx342_4
    replace p342 := eq_true p342
    replace q342 := eq_true q342
    refine start_ (n := 8) (S := fun w' => w'.cell? (ad342.add ((x5_1).toNat * 5)) = some (.string ((rd_T38 l0 x5_1).f0)) ∧ w'.cell? ⟨(ad342.add ((x5_1).toNat * 5)).block, (ad342.add ((x5_1).toNat * 5)).off + 1, none⟩ = some (.int .i64 ((rd_T38 l0 x5_1).f1)) ∧ w'.cell? ⟨(ad342.add ((x5_1).toNat * 5)).block, (ad342.add ((x5_1).toNat * 5)).off + 2, none⟩ = some (.int .i64 ((rd_T38 l0 x5_1).f2)) ∧ w'.cell? ⟨(ad342.add ((x5_1).toNat * 5)).block, (ad342.add ((x5_1).toNat * 5)).off + 3, none⟩ = some (.int .i64 ((rd_T38 l0 x5_1).f3)) ∧ w'.cell? ⟨(ad342.add ((x5_1).toNat * 5)).block, (ad342.add ((x5_1).toNat * 5)).off + 4, none⟩ = some (.bool ((rd_T38 l0 x5_1).f4))) (ds := []) b18A0 zG83 rfl rfl ⟨((HB.out.cell (zb w _ hw342_0)).trans hw342_0), ((HB.out.cell (zb w _ hw342_1)).trans hw342_1), ((HB.out.cell (zb w _ hw342_2)).trans hw342_2), ((HB.out.cell (zb w _ hw342_3)).trans hw342_3), ((HB.out.cell (zb w _ hw342_4)).trans hw342_4)⟩ (fun hHeld => ?_); refine with_tabW laws_heldStockLotS.tab4 laws_heldStockLotS.bits4 (fun HT_ HW_ => ?_)
    generalize wr.drew = w15 at HB hx342_0 hx342_1 hx342_2 hx342_3 hx342_4 hHeld ⊢
    refine zP 0 12 b18A1 HT_ ?_
    refine zP 1 13 b18A2 HT_ ?_
    refine zP 2 14 b18A3 HT_ ?_
    refine zP 3 15 b18A4 HT_ ?_
    refine zP 5 17 b18A5 HT_ ?_
    refine zQ 4 16 b18A6 HT_ HW_ hHeld ?_
    refine one_ (i := 6) (N := some 18) b18A7 rfl rfl (one_of HT_.out zG83) zG84 (fun K hK => ?_)
    refine goes_ Try.func31 zG83 rfl #[.int .i64 x1_1] (by rfl) rfl rfl zG54 ?_
    with_reducible refine (laws_markText.calls k1 x1_1 t343 _ A5.out).mono ?_
    rintro e w16 ⟨rfl, hb⟩
    refine ⟨_, rfl, ?_⟩
    have n0_ := za (zr zG60 hb)
    clear HB
    have HB := n0_
    clear n0_
    (try clear hb)
    (try clear hb2)
    (try clear hk)
    (try clear hi)
    refine hK.out _ _ ⟨((HB.out.cell (zb w _ hw342_0)).trans hw342_0), ((HB.out.cell (zb w _ hw342_1)).trans hw342_1), ((HB.out.cell (zb w _ hw342_2)).trans hw342_2), ((HB.out.cell (zb w _ hw342_3)).trans hw342_3), ((HB.out.cell (zb w _ hw342_4)).trans hw342_4)⟩ (fun hHeld => ?_)
    clear hK K
    refine norm_ (a' := ?_) ?_ ?_
    rotate_left
    ·show Act.put _ (some 18) _ = _
     simp only [Act.put, List.setIfInBounds_toArray, List.set_cons_zero, List.set_cons_succ, i64_w, i32_w]
     rfl
    refine zP 7 19 b18A8 HT_ ?_
    refine done_ (done_of HT_.out zG83) ?_
    have p344 : 0 ≤ (x5_1 : Int) := zO
    have q344 : x5_1 < (l0.length : Int) := zO
    obtain ⟨ad344, e344, hx344_0, hx344_1, hx344_2, hx344_3, hx344_4⟩ := at_T38 HR0.out x5_1 p344 q344
    obtain rfl : ad342 = ad344 := (by injection e344)
    replace hx344_0 := (HB.out.cell (zb w _ hx344_0)).trans hx344_0
    replace hx344_1 := (HB.out.cell (zb w _ hx344_1)).trans hx344_1
    replace hx344_2 := (HB.out.cell (zb w _ hx344_2)).trans hx344_2
    replace hx344_3 := (HB.out.cell (zb w _ hx344_3)).trans hx344_3
    replace hx344_4 := (HB.out.cell (zb w _ hx344_4)).trans hx344_4
    replace p344 := eq_true p344
    replace q344 := eq_true q344
    have p345 : 0 ≤ (x5_1 : Int) := zO
    have q345 : x5_1 < (l0.length : Int) := zO
    obtain ⟨ad345, e345, hx345_0, hx345_1, hx345_2, hx345_3, hx345_4⟩ := at_T38 HR0.out x5_1 p345 q345
    obtain rfl : ad342 = ad345 := (by injection e345)
    replace hx345_0 := (HB.out.cell (zb w _ hx345_0)).trans hx345_0
    replace hx345_1 := (HB.out.cell (zb w _ hx345_1)).trans hx345_1
    replace hx345_2 := (HB.out.cell (zb w _ hx345_2)).trans hx345_2
    replace hx345_3 := (HB.out.cell (zb w _ hx345_3)).trans hx345_3
    replace hx345_4 := (HB.out.cell (zb w _ hx345_4)).trans hx345_4
    replace p345 := eq_true p345
    replace q345 := eq_true q345
    have p346 : 0 ≤ (x5_1 : Int) := zO
    have q346 : x5_1 < (l0.length : Int) := zO
    obtain ⟨ad346, e346, hx346_0, hx346_1, hx346_2, hx346_3, hx346_4⟩ := at_T38 HR0.out x5_1 p346 q346
    obtain rfl : ad342 = ad346 := (by injection e346)
    replace hx346_0 := (HB.out.cell (zb w _ hx346_0)).trans hx346_0
    replace hx346_1 := (HB.out.cell (zb w _ hx346_1)).trans hx346_1
    replace hx346_2 := (HB.out.cell (zb w _ hx346_2)).trans hx346_2
    replace hx346_3 := (HB.out.cell (zb w _ hx346_3)).trans hx346_3
    replace hx346_4 := (HB.out.cell (zb w _ hx346_4)).trans hx346_4
    replace p346 := eq_true p346
    replace q346 := eq_true q346
    try go_wp2
    go_ret
    exact zH14
   rw [if_pos c9] at H
   have c9b0 : (((rd_T38 l0 x5_1).f3) == (wrap64 ((wrap64 ((wrap64 (x1_1 + 1)) + 1)) + 1))) = true := beq_iff_eq.mpr c9
   have c9b1 : (((rd_T38 l0 x5_1).f3) != (wrap64 ((wrap64 ((wrap64 (x1_1 + 1)) + 1)) + 1))) = false := bne_eq_false_iff_eq.mpr c9
   clear c9
   by_cases c10 : (((rd_T38 l0 x5_1).f4) != ((Int.tmod (wrap64 ((wrap64 ((wrap64 ((wrap64 (x1_1 + 1)) + 1)) + 1)) + 1)) 3) == 0)) = true
   ·rw [if_pos c10] at H
    have c10b0 : (((rd_T38 l0 x5_1).f4) != ((Int.tmod (wrap64 ((wrap64 ((wrap64 ((wrap64 (x1_1 + 1)) + 1)) + 1)) + 1)) 3) == 0)) = true := c10
    (try (have c10b1 : decide (((rd_T38 l0 x5_1).f4) = ((Int.tmod (wrap64 ((wrap64 ((wrap64 ((wrap64 (x1_1 + 1)) + 1)) + 1)) + 1)) 3) == 0)) = false := by simpa using c10))
    (try (have c10b2 : (((rd_T38 l0 x5_1).f4) == ((Int.tmod (wrap64 ((wrap64 ((wrap64 ((wrap64 (x1_1 + 1)) + 1)) + 1)) + 1)) 3) == 0)) = false := by simpa using c10))
    (try (have c10b3 : ¬ (((rd_T38 l0 x5_1).f4) = ((Int.tmod (wrap64 ((wrap64 ((wrap64 ((wrap64 (x1_1 + 1)) + 1)) + 1)) + 1)) 3) == 0)) := by simpa using c10))
    clear c10
    obtain rfl := Option.some.inj H
    try go_wp2
    have n0_ := za (zh HB.out)
    clear HB
    have HB := n0_
    clear n0_
    have p342 : 0 ≤ (x5_1 : Int) := zO
    have q342 : x5_1 < (l0.length : Int) := zO
    obtain ⟨ad342, e342, hx342_0, hx342_1, hx342_2, hx342_3, hx342_4⟩ := at_T38 HR0.out x5_1 p342 q342
    have hw342_4 := hx342_4
    have hw342_3 := hx342_3
    have hw342_2 := hx342_2
    have hw342_1 := hx342_1
    have hw342_0 := hx342_0
    cases e342
    replace hx342_0 := (HB.out.cell (zb w _ hx342_0)).trans hx342_0
    replace hx342_1 := (HB.out.cell (zb w _ hx342_1)).trans hx342_1
    replace hx342_2 := (HB.out.cell (zb w _ hx342_2)).trans hx342_2
    replace hx342_3 := (HB.out.cell (zb w _ hx342_3)).trans hx342_3
    replace hx342_4 := (HB.out.cell (zb w _ hx342_4)).trans hx342_4
    replace p342 := eq_true p342
    replace q342 := eq_true q342
    refine start_ (n := 8) (S := fun w' => w'.cell? (ad342.add ((x5_1).toNat * 5)) = some (.string ((rd_T38 l0 x5_1).f0)) ∧ w'.cell? ⟨(ad342.add ((x5_1).toNat * 5)).block, (ad342.add ((x5_1).toNat * 5)).off + 1, none⟩ = some (.int .i64 ((rd_T38 l0 x5_1).f1)) ∧ w'.cell? ⟨(ad342.add ((x5_1).toNat * 5)).block, (ad342.add ((x5_1).toNat * 5)).off + 2, none⟩ = some (.int .i64 ((rd_T38 l0 x5_1).f2)) ∧ w'.cell? ⟨(ad342.add ((x5_1).toNat * 5)).block, (ad342.add ((x5_1).toNat * 5)).off + 3, none⟩ = some (.int .i64 ((rd_T38 l0 x5_1).f3)) ∧ w'.cell? ⟨(ad342.add ((x5_1).toNat * 5)).block, (ad342.add ((x5_1).toNat * 5)).off + 4, none⟩ = some (.bool ((rd_T38 l0 x5_1).f4))) (ds := []) b18A0 zG83 rfl rfl ⟨((HB.out.cell (zb w _ hw342_0)).trans hw342_0), ((HB.out.cell (zb w _ hw342_1)).trans hw342_1), ((HB.out.cell (zb w _ hw342_2)).trans hw342_2), ((HB.out.cell (zb w _ hw342_3)).trans hw342_3), ((HB.out.cell (zb w _ hw342_4)).trans hw342_4)⟩ (fun hHeld => ?_); refine with_tabW laws_heldStockLotS.tab4 laws_heldStockLotS.bits4 (fun HT_ HW_ => ?_)
    generalize wr.drew = w11 at HB hx342_0 hx342_1 hx342_2 hx342_3 hx342_4 hHeld ⊢
    refine zP 0 12 b18A1 HT_ ?_
    refine zP 1 13 b18A2 HT_ ?_
    refine zP 2 14 b18A3 HT_ ?_
    refine zP 3 15 b18A4 HT_ ?_
    refine zP 5 17 b18A5 HT_ ?_
    refine zQ 4 16 b18A6 HT_ HW_ hHeld ?_
    refine one_ (i := 6) (N := some 18) b18A7 rfl rfl (one_of HT_.out zG83) zG84 (fun K hK => ?_)
    refine goes_ Try.func31 zG83 rfl #[.int .i64 x1_1] (by rfl) rfl rfl zG54 ?_
    with_reducible refine (laws_markText.calls k1 x1_1 t343 _ A5.out).mono ?_
    rintro e w12 ⟨rfl, hb⟩
    refine ⟨_, rfl, ?_⟩
    have n0_ := za (zr zG60 hb)
    clear HB
    have HB := n0_
    clear n0_
    (try clear hb)
    (try clear hb2)
    (try clear hk)
    (try clear hi)
    refine hK.out _ _ ⟨((HB.out.cell (zb w _ hw342_0)).trans hw342_0), ((HB.out.cell (zb w _ hw342_1)).trans hw342_1), ((HB.out.cell (zb w _ hw342_2)).trans hw342_2), ((HB.out.cell (zb w _ hw342_3)).trans hw342_3), ((HB.out.cell (zb w _ hw342_4)).trans hw342_4)⟩ (fun hHeld => ?_)
    clear hK K
    refine norm_ (a' := ?_) ?_ ?_
    rotate_left
    ·show Act.put _ (some 18) _ = _
     simp only [Act.put, List.setIfInBounds_toArray, List.set_cons_zero, List.set_cons_succ, i64_w, i32_w]
     rfl
    refine zP 7 19 b18A8 HT_ ?_
    refine done_ (done_of HT_.out zG83) ?_
    have p344 : 0 ≤ (x5_1 : Int) := zO
    have q344 : x5_1 < (l0.length : Int) := zO
    obtain ⟨ad344, e344, hx344_0, hx344_1, hx344_2, hx344_3, hx344_4⟩ := at_T38 HR0.out x5_1 p344 q344
    obtain rfl : ad342 = ad344 := (by injection e344)
    replace hx344_0 := (HB.out.cell (zb w _ hx344_0)).trans hx344_0
    replace hx344_1 := (HB.out.cell (zb w _ hx344_1)).trans hx344_1
    replace hx344_2 := (HB.out.cell (zb w _ hx344_2)).trans hx344_2
    replace hx344_3 := (HB.out.cell (zb w _ hx344_3)).trans hx344_3
    replace hx344_4 := (HB.out.cell (zb w _ hx344_4)).trans hx344_4
    replace p344 := eq_true p344
    replace q344 := eq_true q344
    have p345 : 0 ≤ (x5_1 : Int) := zO
    have q345 : x5_1 < (l0.length : Int) := zO
    obtain ⟨ad345, e345, hx345_0, hx345_1, hx345_2, hx345_3, hx345_4⟩ := at_T38 HR0.out x5_1 p345 q345
    obtain rfl : ad342 = ad345 := (by injection e345)
    replace hx345_0 := (HB.out.cell (zb w _ hx345_0)).trans hx345_0
    replace hx345_1 := (HB.out.cell (zb w _ hx345_1)).trans hx345_1
    replace hx345_2 := (HB.out.cell (zb w _ hx345_2)).trans hx345_2
    replace hx345_3 := (HB.out.cell (zb w _ hx345_3)).trans hx345_3
    replace hx345_4 := (HB.out.cell (zb w _ hx345_4)).trans hx345_4
    replace p345 := eq_true p345
    replace q345 := eq_true q345
    have p346 : 0 ≤ (x5_1 : Int) := zO
    have q346 : x5_1 < (l0.length : Int) := zO
    obtain ⟨ad346, e346, hx346_0, hx346_1, hx346_2, hx346_3, hx346_4⟩ := at_T38 HR0.out x5_1 p346 q346
    obtain rfl : ad342 = ad346 := (by injection e346)
    replace hx346_0 := (HB.out.cell (zb w _ hx346_0)).trans hx346_0
    replace hx346_1 := (HB.out.cell (zb w _ hx346_1)).trans hx346_1
    replace hx346_2 := (HB.out.cell (zb w _ hx346_2)).trans hx346_2
    replace hx346_3 := (HB.out.cell (zb w _ hx346_3)).trans hx346_3
    replace hx346_4 := (HB.out.cell (zb w _ hx346_4)).trans hx346_4
    replace p346 := eq_true p346
    replace q346 := eq_true q346
    have p347 : 0 ≤ (x5_1 : Int) := zO
    have q347 : x5_1 < (l0.length : Int) := zO
    obtain ⟨ad347, e347, hx347_0, hx347_1, hx347_2, hx347_3, hx347_4⟩ := at_T38 HR0.out x5_1 p347 q347
    obtain rfl : ad342 = ad347 := (by injection e347)
    replace hx347_0 := (HB.out.cell (zb w _ hx347_0)).trans hx347_0
    replace hx347_1 := (HB.out.cell (zb w _ hx347_1)).trans hx347_1
    replace hx347_2 := (HB.out.cell (zb w _ hx347_2)).trans hx347_2
    replace hx347_3 := (HB.out.cell (zb w _ hx347_3)).trans hx347_3
    replace hx347_4 := (HB.out.cell (zb w _ hx347_4)).trans hx347_4
    replace p347 := eq_true p347
    replace q347 := eq_true q347
    try go_wp2
    go_ret
    exact zH14
   rw [if_neg c10] at H
   have c10b0 : (((rd_T38 l0 x5_1).f4) != ((Int.tmod (wrap64 ((wrap64 ((wrap64 ((wrap64 (x1_1 + 1)) + 1)) + 1)) + 1)) 3) == 0)) = false := by simpa using c10
   (try (have c10b1 : decide (((rd_T38 l0 x5_1).f4) = ((Int.tmod (wrap64 ((wrap64 ((wrap64 ((wrap64 (x1_1 + 1)) + 1)) + 1)) + 1)) 3) == 0)) = true := by simpa using c10))
   (try (have c10b2 : (((rd_T38 l0 x5_1).f4) == ((Int.tmod (wrap64 ((wrap64 ((wrap64 ((wrap64 (x1_1 + 1)) + 1)) + 1)) + 1)) 3) == 0)) = true := by simpa using c10))
   clear c10
   have H' := za H
   clear H
   try go_wp2
   have n0_ := za (zh HB.out)
   clear HB
   have HB := n0_
   clear n0_
   have p342 : 0 ≤ (x5_1 : Int) := zO
   have q342 : x5_1 < (l0.length : Int) := zO
   obtain ⟨ad342, e342, hx342_0, hx342_1, hx342_2, hx342_3, hx342_4⟩ := at_T38 HR0.out x5_1 p342 q342
   have hw342_4 := hx342_4
   have hw342_3 := hx342_3
   have hw342_2 := hx342_2
   have hw342_1 := hx342_1
   have hw342_0 := hx342_0
   cases e342
   replace hx342_0 := (HB.out.cell (zb w _ hx342_0)).trans hx342_0
   replace hx342_1 := (HB.out.cell (zb w _ hx342_1)).trans hx342_1
   replace hx342_2 := (HB.out.cell (zb w _ hx342_2)).trans hx342_2
   replace hx342_3 := (HB.out.cell (zb w _ hx342_3)).trans hx342_3
   replace hx342_4 := (HB.out.cell (zb w _ hx342_4)).trans hx342_4
   replace p342 := eq_true p342
   replace q342 := eq_true q342
   refine start_ (n := 8) (S := fun w' => w'.cell? (ad342.add ((x5_1).toNat * 5)) = some (.string ((rd_T38 l0 x5_1).f0)) ∧ w'.cell? ⟨(ad342.add ((x5_1).toNat * 5)).block, (ad342.add ((x5_1).toNat * 5)).off + 1, none⟩ = some (.int .i64 ((rd_T38 l0 x5_1).f1)) ∧ w'.cell? ⟨(ad342.add ((x5_1).toNat * 5)).block, (ad342.add ((x5_1).toNat * 5)).off + 2, none⟩ = some (.int .i64 ((rd_T38 l0 x5_1).f2)) ∧ w'.cell? ⟨(ad342.add ((x5_1).toNat * 5)).block, (ad342.add ((x5_1).toNat * 5)).off + 3, none⟩ = some (.int .i64 ((rd_T38 l0 x5_1).f3)) ∧ w'.cell? ⟨(ad342.add ((x5_1).toNat * 5)).block, (ad342.add ((x5_1).toNat * 5)).off + 4, none⟩ = some (.bool ((rd_T38 l0 x5_1).f4))) (ds := []) b18A0 zG83 rfl rfl ⟨((HB.out.cell (zb w _ hw342_0)).trans hw342_0), ((HB.out.cell (zb w _ hw342_1)).trans hw342_1), ((HB.out.cell (zb w _ hw342_2)).trans hw342_2), ((HB.out.cell (zb w _ hw342_3)).trans hw342_3), ((HB.out.cell (zb w _ hw342_4)).trans hw342_4)⟩ (fun hHeld => ?_); refine with_tabW laws_heldStockLotS.tab4 laws_heldStockLotS.bits4 (fun HT_ HW_ => ?_)
   generalize wr.drew = w13 at HB hx342_0 hx342_1 hx342_2 hx342_3 hx342_4 hHeld ⊢
   refine zP 0 12 b18A1 HT_ ?_
   refine zP 1 13 b18A2 HT_ ?_
   refine zP 2 14 b18A3 HT_ ?_
   refine zP 3 15 b18A4 HT_ ?_
   refine zP 5 17 b18A5 HT_ ?_
   refine zQ 4 16 b18A6 HT_ HW_ hHeld ?_
   refine one_ (i := 6) (N := some 18) b18A7 rfl rfl (one_of HT_.out zG83) zG84 (fun K hK => ?_)
   refine goes_ Try.func31 zG83 rfl #[.int .i64 x1_1] (by rfl) rfl rfl zG54 ?_
   with_reducible refine (laws_markText.calls k1 x1_1 t343 _ A5.out).mono ?_
   rintro e w14 ⟨rfl, hb⟩
   refine ⟨_, rfl, ?_⟩
   have n0_ := za (zr zG60 hb)
   clear HB
   have HB := n0_
   clear n0_
   (try clear hb)
   (try clear hb2)
   (try clear hk)
   (try clear hi)
   refine hK.out _ _ ⟨((HB.out.cell (zb w _ hw342_0)).trans hw342_0), ((HB.out.cell (zb w _ hw342_1)).trans hw342_1), ((HB.out.cell (zb w _ hw342_2)).trans hw342_2), ((HB.out.cell (zb w _ hw342_3)).trans hw342_3), ((HB.out.cell (zb w _ hw342_4)).trans hw342_4)⟩ (fun hHeld => ?_)
   clear hK K
   refine norm_ (a' := ?_) ?_ ?_
   rotate_left
   ·show Act.put _ (some 18) _ = _
    simp only [Act.put, List.setIfInBounds_toArray, List.set_cons_zero, List.set_cons_succ, i64_w, i32_w]
    rfl
   refine zP 7 19 b18A8 HT_ ?_
   refine done_ (done_of HT_.out zG83) ?_
   have p344 : 0 ≤ (x5_1 : Int) := zO
   have q344 : x5_1 < (l0.length : Int) := zO
   obtain ⟨ad344, e344, hx344_0, hx344_1, hx344_2, hx344_3, hx344_4⟩ := at_T38 HR0.out x5_1 p344 q344
   obtain rfl : ad342 = ad344 := (by injection e344)
   replace hx344_0 := (HB.out.cell (zb w _ hx344_0)).trans hx344_0
   replace hx344_1 := (HB.out.cell (zb w _ hx344_1)).trans hx344_1
   replace hx344_2 := (HB.out.cell (zb w _ hx344_2)).trans hx344_2
   replace hx344_3 := (HB.out.cell (zb w _ hx344_3)).trans hx344_3
   replace hx344_4 := (HB.out.cell (zb w _ hx344_4)).trans hx344_4
   replace p344 := eq_true p344
   replace q344 := eq_true q344
   have p345 : 0 ≤ (x5_1 : Int) := zO
   have q345 : x5_1 < (l0.length : Int) := zO
   obtain ⟨ad345, e345, hx345_0, hx345_1, hx345_2, hx345_3, hx345_4⟩ := at_T38 HR0.out x5_1 p345 q345
   obtain rfl : ad342 = ad345 := (by injection e345)
   replace hx345_0 := (HB.out.cell (zb w _ hx345_0)).trans hx345_0
   replace hx345_1 := (HB.out.cell (zb w _ hx345_1)).trans hx345_1
   replace hx345_2 := (HB.out.cell (zb w _ hx345_2)).trans hx345_2
   replace hx345_3 := (HB.out.cell (zb w _ hx345_3)).trans hx345_3
   replace hx345_4 := (HB.out.cell (zb w _ hx345_4)).trans hx345_4
   replace p345 := eq_true p345
   replace q345 := eq_true q345
   have p346 : 0 ≤ (x5_1 : Int) := zO
   have q346 : x5_1 < (l0.length : Int) := zO
   obtain ⟨ad346, e346, hx346_0, hx346_1, hx346_2, hx346_3, hx346_4⟩ := at_T38 HR0.out x5_1 p346 q346
   obtain rfl : ad342 = ad346 := (by injection e346)
   replace hx346_0 := (HB.out.cell (zb w _ hx346_0)).trans hx346_0
   replace hx346_1 := (HB.out.cell (zb w _ hx346_1)).trans hx346_1
   replace hx346_2 := (HB.out.cell (zb w _ hx346_2)).trans hx346_2
   replace hx346_3 := (HB.out.cell (zb w _ hx346_3)).trans hx346_3
   replace hx346_4 := (HB.out.cell (zb w _ hx346_4)).trans hx346_4
   replace p346 := eq_true p346
   replace q346 := eq_true q346
   have p347 : 0 ≤ (x5_1 : Int) := zO
   have q347 : x5_1 < (l0.length : Int) := zO
   obtain ⟨ad347, e347, hx347_0, hx347_1, hx347_2, hx347_3, hx347_4⟩ := at_T38 HR0.out x5_1 p347 q347
   obtain rfl : ad342 = ad347 := (by injection e347)
   replace hx347_0 := (HB.out.cell (zb w _ hx347_0)).trans hx347_0
   replace hx347_1 := (HB.out.cell (zb w _ hx347_1)).trans hx347_1
   replace hx347_2 := (HB.out.cell (zb w _ hx347_2)).trans hx347_2
   replace hx347_3 := (HB.out.cell (zb w _ hx347_3)).trans hx347_3
   replace hx347_4 := (HB.out.cell (zb w _ hx347_4)).trans hx347_4
   replace p347 := eq_true p347
   replace q347 := eq_true q347
   try go_wp2
   go_roundg k1
   case measure => have := HK1.out; omega
   case rel => exact ⟨(wrap64 ((wrap64 ((wrap64 ((wrap64 ((wrap64 (x1_1 + 1)) + 1)) + 1)) + 1)) + 1)), (wrap64 (x5_1 + 1)), zG82, zG82, H', ⟨zH88⟩, ⟨zH60⟩⟩
end Go.Proofs.Ytnkceaibkfbeaaa.E
