-- squeezed
-- made by pp.py (wip/tools) out of the translation; Lean checks it
import Derived.Test.YtnkceaibkfbeaaaE0
import Derived.Test.YtnkceaibkfbeaaaE14
namespace Go.Proofs.Ytnkceaibkfbeaaa.E
open Go.RowKit Go.Proofs.YtnkceaibkfbeaaaW.PrintWords Go.Proofs.YtnkceaibkfbeaaaW.PrintLast Go.Proofs.YtnkceaibkfbeaaaW.PrintMore
attribute [local go_sem] max2_int min2_int max_two min_two max_three min_three max_four min_four   -- for this text's walks alone
set_option linter.unusedVariables false
set_option linter.unusedSimpArgs false

abbrev b15A0 := zM 10 0
abbrev b15A1 := zM 10 1
abbrev b15A2 := zM 10 3
abbrev b15A3 := zM 10 7
abbrev b15A4 := zM 10 23
abbrev b15A5 := zM 10 55
abbrev b15A6 := zM 10 119
abbrev b15A7 := zM 10 127
abbrev b15A8 := zM 10 255
abbrev b15A9 := zM 10 511
abbrev b15A10 := zM 10 1023
abbrev q15a := @blk_cell
/-! ### laws_eqStockLotS: function 29 -/
def laws_eqStockLotS.l0 : Nat → List (S38) → List (S38) → Int → Option (Bool)
 | 0, _, _, _ => none
 | k + 1, x0, x1, x5 => if x5 < (x0.length : Int) then (if 0 ≤ x5 then (if x5 < (x1.length : Int) then ((laws_eqStockLot.f ((rd_T38 x0 x5).f0) ((rd_T38 x0 x5).f1) ((rd_T38 x0 x5).f2) ((rd_T38 x0 x5).f3) ((rd_T38 x0 x5).f4) ((rd_T38 x1 x5).f0) ((rd_T38 x1 x5).f1) ((rd_T38 x1 x5).f2) ((rd_T38 x1 x5).f3) ((rd_T38 x1 x5).f4)).bind fun t311 => (if t311 = true then (laws_eqStockLotS.l0 k x0 x1 (wrap64 (x5 + 1))) else (some false))) else (none)) else (none)) else (some true)
def laws_eqStockLotS.f (k : Nat) (l0 : List (S38)) (l1 : List (S38)) : Option (Bool) := if (l0.length : Int) = (l1.length : Int) then (laws_eqStockLotS.l0 k l0 l1 0) else (some false)
theorem laws_eqStockLotS.mono_l : ∀ k, (∀ y0 y1 y2, LeO (laws_eqStockLotS.l0 k y0 y1 y2) (laws_eqStockLotS.l0 (k + 1) y0 y1 y2))
 | 0 => fun _ _ _ r h => by simp [laws_eqStockLotS.l0] at h
 | k + 1 => by
  have ih0 := laws_eqStockLotS.mono_l k
  ·intro y0 y1 y2
   unfold laws_eqStockLotS.l0
   repeat' first
   | (with_reducible exact ih0 _ _ _)
   | (with_reducible exact LeO.refl _)
   | (with_reducible exact LeO.none _)
   | (with_reducible refine LeO.ite ?_ ?_)
   | (with_reducible refine LeO.bind ?_ (fun _ => ?_))
   | exact ih0 _ _ _
   | exact LeO.none _
   | refine LeO.ite ?_ ?_
   | refine LeO.bind ?_ (fun _ => ?_)
theorem laws_eqStockLotS.mono : ∀ a0 a1 k, LeO (laws_eqStockLotS.f k a0 a1) (laws_eqStockLotS.f (k + 1) a0 a1) := by
 intro a0 a1 k
 have ih0 := laws_eqStockLotS.mono_l k
 unfold laws_eqStockLotS.f
 repeat' first
   | (with_reducible exact ih0 _ _ _)
   | (with_reducible exact LeO.refl _)
   | (with_reducible exact LeO.none _)
   | (with_reducible refine LeO.ite ?_ ?_)
   | (with_reducible refine LeO.bind ?_ (fun _ => ?_))
   | exact ih0 _ _ _
   | exact LeO.none _
   | refine LeO.ite ?_ ?_
   | refine LeO.bind ?_ (fun _ => ?_)
def laws_eqStockLotS.T6 : Bool × List (List Nat × List Nat) := (true, [([], []), ([], []), ([0, 1], [0, 1]), ([2], [2]), ([], []), ([], []), ([4, 5], [4, 5]), ([6], [6]), ([3, 7], [3, 7]), ([8], [8])])
def laws_eqStockLotS.B6 : List Nat := [0, 0, 3, 7, 0, 0, 48, 112, 255, 511]
theorem laws_eqStockLotS.tab6 : rtab .any (opsOf Try.f29 6) = laws_eqStockLotS.T6 := by kernel_rfl
theorem laws_eqStockLotS.bits6 : waitsOk laws_eqStockLotS.T6.2 laws_eqStockLotS.B6 = true := by kernel_rfl
set_option maxHeartbeats 64000000 in
set_option maxRecDepth 100000 in
theorem laws_eqStockLotS.calls (k : Nat) (A0 : Option Addr) (c0 : Nat) (l0 : List (S38)) (A1 : Option Addr) (c1 : Nat) (l1 : List (S38)) (r : Bool) (w : World) (hr0 : Kd.C k38 w A0 l0.length l0) (hc0 : l0.length ≤ c0) (hr1 : Kd.C k38 w A1 l1.length l1) (hc1 : l1.length ≤ c1) (h : laws_eqStockLotS.f k l0 l1 = some r) :
  Calls Try.prog 29 #[.slice A0 l0.length c0, .slice A1 l1.length c1] w fun e w' => e = .returned (.bool r) ∧ Below w.heap.size w w' := by
 have hu38 := Try.underlying38
 obtain ⟨HR0, HC0, HR1, HC1, HB⟩ := zD5 hr0 hc0 hr1 hc1 (Below.refl w.heap.size w)
 clear hr0 hc0 hr1 hc1
 have H : (if (l0.length : Int) = (l1.length : Int) then (laws_eqStockLotS.l0 k l0 l1 0) else (some false)) = some r := h
 clear h
 by_cases c3 : (l0.length : Int) = (l1.length : Int)
 rotate_left
 ·rw [if_neg c3] at H
  have c3b0 : ((l0.length : Int) == (l1.length : Int)) = false := beq_eq_false_iff_ne.mpr c3
  have c3b1 : ((l0.length : Int) != (l1.length : Int)) = true := bne_iff_ne.mpr c3
  have c3b2 : (l0.length == l1.length) = false := by first | simpa using c3 | (simp at c3 ⊢; omega)
  obtain rfl := Option.some.inj H
  go_enter Try.func29, Try.ntmps29
  go_wp2
  go_ret
  exact zH14

 rw [if_pos c3] at H
 have c3b0 : ((l0.length : Int) == (l1.length : Int)) = true := beq_iff_eq.mpr c3
 have c3b1 : ((l0.length : Int) != (l1.length : Int)) = false := bne_eq_false_iff_eq.mpr c3
 have c3b2 : (l0.length == l1.length) = true := by first | simpa using c3 | (simp at c3 ⊢; omega)
 clear c3
 have H' := za H
 clear H
 go_enter Try.func29, Try.ntmps29
 go_wp2
 go_loopg [5] k (fun kq v5 w' => ∃ (x5_1 : Int), v5 = .int .i64 x5_1 ∧ Aside0 (laws_eqStockLotS.l0 kq l0 l1 x5_1 = some r) ∧ Aside0 (kq ≤ k) ∧ Aside0 (Below w.heap.size w w'))
 case atStart => exact ⟨(0), zG82, H', ⟨Nat.le_refl _⟩, ⟨zH60⟩⟩
 case round =>
  clear H'
  try clear c1
  try clear c3
  try clear c3b0
  try clear c3b1
  try clear c3b2
  obtain ⟨x5_1, rfl, HA, HK1, HB⟩ := hrel
  cases gk with
  | zero => exact absurd HA.out (by simp [laws_eqStockLotS.l0])
  | succ k1 =>
   have H := HA.out
   clear HA
   simp only [laws_eqStockLotS.l0] at H
   by_cases c4 : x5_1 < (l0.length : Int)
   rotate_left
   ·rw [if_neg c4] at H
    have c4b0 := decide_eq_false c4
    clear c4
    obtain rfl := Option.some.inj H
    go_wp2
    go_ret
    exact zH14
   rw [if_pos c4] at H
   have c4b0 := decide_eq_true c4
   clear c4
   by_cases c5 : 0 ≤ x5_1
   rotate_left
   ·rw [if_neg c5] at H
    exact absurd H (by simp)
   rw [if_pos c5] at H
   have c5b0 := decide_eq_true c5
   clear c5
   by_cases c6 : x5_1 < (l1.length : Int)
   rotate_left
   ·rw [if_neg c6] at H
    exact absurd H (by simp)
   rw [if_pos c6] at H
   have c6b0 := decide_eq_true c6
   clear c6
   replace H := Option.bind_eq_some_iff.mp H
   obtain ⟨t311, A70, H⟩ := H
   replace H : (if t311 = true then (laws_eqStockLotS.l0 k1 l0 l1 (wrap64 (x5_1 + 1))) else (some false)) = some r := H
   have A7 := za A70
   clear A70
   by_cases c8 : t311 = true
   rotate_left
   ·replace c8 := Bool.eq_false_iff.mpr c8
    subst c8
    have H1 : (some false) = some r := by rw [if_neg (show ¬ (false = true) by decide)] at H; exact H
    clear H
    have H := H1
    clear H1
    obtain rfl := Option.some.inj H
    try go_wp2
    have n0_ := za (zh HB.out)
    clear HB
    have HB := n0_
    clear n0_
    have p309 : 0 ≤ (x5_1 : Int) := zO
    have q309 : x5_1 < (l0.length : Int) := zO
    obtain ⟨ad309, e309, hx309_0, hx309_1, hx309_2, hx309_3, hx309_4⟩ := at_T38 HR0.out x5_1 p309 q309
    have hw309_4 := hx309_4
    have hw309_3 := hx309_3
    have hw309_2 := hx309_2
    have hw309_1 := hx309_1
    have hw309_0 := hx309_0
    cases e309
    replace hx309_0 := (HB.out.cell (zb w _ hx309_0)).trans hx309_0
    replace hx309_1 := (HB.out.cell (zb w _ hx309_1)).trans hx309_1
    replace hx309_2 := (HB.out.cell (zb w _ hx309_2)).trans hx309_2
    replace hx309_3 := (HB.out.cell (zb w _ hx309_3)).trans hx309_3
    replace hx309_4 := (HB.out.cell (zb w _ hx309_4)).trans hx309_4
    replace p309 := eq_true p309
    replace q309 := eq_true q309
    have p310 : 0 ≤ (x5_1 : Int) := zO
    have q310 : x5_1 < (l1.length : Int) := zO
    obtain ⟨ad310, e310, hx310_0, hx310_1, hx310_2, hx310_3, hx310_4⟩ := at_T38 HR1.out x5_1 p310 q310
    have hw310_4 := hx310_4
    have hw310_3 := hx310_3
    have hw310_2 := hx310_2
    have hw310_1 := hx310_1
    have hw310_0 := hx310_0
    cases e310
    replace hx310_0 := (HB.out.cell (zb w _ hx310_0)).trans hx310_0
    replace hx310_1 := (HB.out.cell (zb w _ hx310_1)).trans hx310_1
    replace hx310_2 := (HB.out.cell (zb w _ hx310_2)).trans hx310_2
    replace hx310_3 := (HB.out.cell (zb w _ hx310_3)).trans hx310_3
    replace hx310_4 := (HB.out.cell (zb w _ hx310_4)).trans hx310_4
    replace p310 := eq_true p310
    replace q310 := eq_true q310
    refine start_ (n := 10) (S := fun w' => w'.cell? (ad309.add ((x5_1).toNat * 5)) = some (.string ((rd_T38 l0 x5_1).f0)) ∧ w'.cell? ⟨(ad309.add ((x5_1).toNat * 5)).block, (ad309.add ((x5_1).toNat * 5)).off + 1, none⟩ = some (.int .i64 ((rd_T38 l0 x5_1).f1)) ∧ w'.cell? ⟨(ad309.add ((x5_1).toNat * 5)).block, (ad309.add ((x5_1).toNat * 5)).off + 2, none⟩ = some (.int .i64 ((rd_T38 l0 x5_1).f2)) ∧ w'.cell? ⟨(ad309.add ((x5_1).toNat * 5)).block, (ad309.add ((x5_1).toNat * 5)).off + 3, none⟩ = some (.int .i64 ((rd_T38 l0 x5_1).f3)) ∧ w'.cell? ⟨(ad309.add ((x5_1).toNat * 5)).block, (ad309.add ((x5_1).toNat * 5)).off + 4, none⟩ = some (.bool ((rd_T38 l0 x5_1).f4)) ∧ w'.cell? (ad310.add ((x5_1).toNat * 5)) = some (.string ((rd_T38 l1 x5_1).f0)) ∧ w'.cell? ⟨(ad310.add ((x5_1).toNat * 5)).block, (ad310.add ((x5_1).toNat * 5)).off + 1, none⟩ = some (.int .i64 ((rd_T38 l1 x5_1).f1)) ∧ w'.cell? ⟨(ad310.add ((x5_1).toNat * 5)).block, (ad310.add ((x5_1).toNat * 5)).off + 2, none⟩ = some (.int .i64 ((rd_T38 l1 x5_1).f2)) ∧ w'.cell? ⟨(ad310.add ((x5_1).toNat * 5)).block, (ad310.add ((x5_1).toNat * 5)).off + 3, none⟩ = some (.int .i64 ((rd_T38 l1 x5_1).f3)) ∧ w'.cell? ⟨(ad310.add ((x5_1).toNat * 5)).block, (ad310.add ((x5_1).toNat * 5)).off + 4, none⟩ = some (.bool ((rd_T38 l1 x5_1).f4))) (ds := []) b15A0 zG83 rfl rfl ⟨((HB.out.cell (zb w _ hw309_0)).trans hw309_0), ((HB.out.cell (zb w _ hw309_1)).trans hw309_1), ((HB.out.cell (zb w _ hw309_2)).trans hw309_2), ((HB.out.cell (zb w _ hw309_3)).trans hw309_3), ((HB.out.cell (zb w _ hw309_4)).trans hw309_4), ((HB.out.cell (zb w _ hw310_0)).trans hw310_0), ((HB.out.cell (zb w _ hw310_1)).trans hw310_1), ((HB.out.cell (zb w _ hw310_2)).trans hw310_2), ((HB.out.cell (zb w _ hw310_3)).trans hw310_3), ((HB.out.cell (zb w _ hw310_4)).trans hw310_4)⟩ (fun hHeld => ?_); refine with_tabW laws_eqStockLotS.tab6 laws_eqStockLotS.bits6 (fun HT_ HW_ => ?_)
    generalize wr.drew = w11 at HB hx309_0 hx309_1 hx309_2 hx309_3 hx309_4 hx310_0 hx310_1 hx310_2 hx310_3 hx310_4 hHeld ⊢
    refine zP 0 17 b15A1 HT_ ?_
    refine zP 1 18 b15A2 HT_ ?_
    refine zP 2 19 b15A3 HT_ ?_
    refine zP 4 21 b15A4 HT_ ?_
    refine zP 5 22 b15A5 HT_ ?_
    refine zP 6 23 b15A6 HT_ ?_
    refine zQ 3 20 b15A7 HT_ HW_ hHeld ?_
    refine zQ 7 24 b15A8 HT_ HW_ hHeld ?_
    refine one_ (i := 8) (N := some 25) b15A9 rfl rfl (one_of HT_.out zG83) zG84 (fun K hK => ?_)
    refine goes_ Try.func47 zG83 rfl #[.agg (zl5 ((rd_T38 l0 x5_1).f0) ((rd_T38 l0 x5_1).f1) ((rd_T38 l0 x5_1).f2) ((rd_T38 l0 x5_1).f3) ((rd_T38 l0 x5_1).f4)), .agg (zl5 ((rd_T38 l1 x5_1).f0) ((rd_T38 l1 x5_1).f1) ((rd_T38 l1 x5_1).f2) ((rd_T38 l1 x5_1).f3) ((rd_T38 l1 x5_1).f4))] (by rfl) rfl rfl zG54 ?_
    with_reducible refine (laws_eqStockLot.calls ((rd_T38 l0 x5_1).f0) ((rd_T38 l0 x5_1).f1) ((rd_T38 l0 x5_1).f2) ((rd_T38 l0 x5_1).f3) ((rd_T38 l0 x5_1).f4) ((rd_T38 l1 x5_1).f0) ((rd_T38 l1 x5_1).f1) ((rd_T38 l1 x5_1).f2) ((rd_T38 l1 x5_1).f3) ((rd_T38 l1 x5_1).f4) false _ A7.out).mono ?_
    rintro e w12 ⟨rfl, hb⟩
    refine ⟨_, rfl, ?_⟩
    have n0_ := za (zr zG60 hb)
    clear HB
    have HB := n0_
    clear n0_
    (try clear hb)
    (try clear hb2)
    (try clear hk)
    (try clear hi)
    refine hK.out _ _ ⟨((HB.out.cell (zb w _ hw309_0)).trans hw309_0), ((HB.out.cell (zb w _ hw309_1)).trans hw309_1), ((HB.out.cell (zb w _ hw309_2)).trans hw309_2), ((HB.out.cell (zb w _ hw309_3)).trans hw309_3), ((HB.out.cell (zb w _ hw309_4)).trans hw309_4), ((HB.out.cell (zb w _ hw310_0)).trans hw310_0), ((HB.out.cell (zb w _ hw310_1)).trans hw310_1), ((HB.out.cell (zb w _ hw310_2)).trans hw310_2), ((HB.out.cell (zb w _ hw310_3)).trans hw310_3), ((HB.out.cell (zb w _ hw310_4)).trans hw310_4)⟩ (fun hHeld => ?_)
    clear hK K
    refine norm_ (a' := ?_) ?_ ?_
    rotate_left
    ·show Act.put _ (some 25) _ = _
     simp only [Act.put, List.setIfInBounds_toArray, List.set_cons_zero, List.set_cons_succ, i64_w, i32_w]
     rfl
    refine zP 9 26 b15A10 HT_ ?_
    refine done_ (done_of HT_.out zG83) ?_
    try go_wp2
    go_ret
    exact zH14
   subst c8
   have H1 : (laws_eqStockLotS.l0 k1 l0 l1 (wrap64 (x5_1 + 1))) = some r := by rw [if_pos rfl] at H; exact H
   clear H
   have H := H1
   clear H1
   have H' := za H
   clear H
   try go_wp2
   have n0_ := za (zh HB.out)
   clear HB
   have HB := n0_
   clear n0_
   have p309 : 0 ≤ (x5_1 : Int) := zO
   have q309 : x5_1 < (l0.length : Int) := zO
   obtain ⟨ad309, e309, hx309_0, hx309_1, hx309_2, hx309_3, hx309_4⟩ := at_T38 HR0.out x5_1 p309 q309
   have hw309_4 := hx309_4
   have hw309_3 := hx309_3
   have hw309_2 := hx309_2
   have hw309_1 := hx309_1
   have hw309_0 := hx309_0
   cases e309
   replace hx309_0 := (HB.out.cell (zb w _ hx309_0)).trans hx309_0
   replace hx309_1 := (HB.out.cell (zb w _ hx309_1)).trans hx309_1
   replace hx309_2 := (HB.out.cell (zb w _ hx309_2)).trans hx309_2
   replace hx309_3 := (HB.out.cell (zb w _ hx309_3)).trans hx309_3
   replace hx309_4 := (HB.out.cell (zb w _ hx309_4)).trans hx309_4
   replace p309 := eq_true p309
   replace q309 := eq_true q309
   have p310 : 0 ≤ (x5_1 : Int) := zO
   have q310 : x5_1 < (l1.length : Int) := zO
   obtain ⟨ad310, e310, hx310_0, hx310_1, hx310_2, hx310_3, hx310_4⟩ := at_T38 HR1.out x5_1 p310 q310
   have hw310_4 := hx310_4
   have hw310_3 := hx310_3
   have hw310_2 := hx310_2
   have hw310_1 := hx310_1
   have hw310_0 := hx310_0
   cases e310
   replace hx310_0 := (HB.out.cell (zb w _ hx310_0)).trans hx310_0
   replace hx310_1 := (HB.out.cell (zb w _ hx310_1)).trans hx310_1
   replace hx310_2 := (HB.out.cell (zb w _ hx310_2)).trans hx310_2
   replace hx310_3 := (HB.out.cell (zb w _ hx310_3)).trans hx310_3
   replace hx310_4 := (HB.out.cell (zb w _ hx310_4)).trans hx310_4
   replace p310 := eq_true p310
   replace q310 := eq_true q310
   refine start_ (n := 10) (S := fun w' => w'.cell? (ad309.add ((x5_1).toNat * 5)) = some (.string ((rd_T38 l0 x5_1).f0)) ∧ w'.cell? ⟨(ad309.add ((x5_1).toNat * 5)).block, (ad309.add ((x5_1).toNat * 5)).off + 1, none⟩ = some (.int .i64 ((rd_T38 l0 x5_1).f1)) ∧ w'.cell? ⟨(ad309.add ((x5_1).toNat * 5)).block, (ad309.add ((x5_1).toNat * 5)).off + 2, none⟩ = some (.int .i64 ((rd_T38 l0 x5_1).f2)) ∧ w'.cell? ⟨(ad309.add ((x5_1).toNat * 5)).block, (ad309.add ((x5_1).toNat * 5)).off + 3, none⟩ = some (.int .i64 ((rd_T38 l0 x5_1).f3)) ∧ w'.cell? ⟨(ad309.add ((x5_1).toNat * 5)).block, (ad309.add ((x5_1).toNat * 5)).off + 4, none⟩ = some (.bool ((rd_T38 l0 x5_1).f4)) ∧ w'.cell? (ad310.add ((x5_1).toNat * 5)) = some (.string ((rd_T38 l1 x5_1).f0)) ∧ w'.cell? ⟨(ad310.add ((x5_1).toNat * 5)).block, (ad310.add ((x5_1).toNat * 5)).off + 1, none⟩ = some (.int .i64 ((rd_T38 l1 x5_1).f1)) ∧ w'.cell? ⟨(ad310.add ((x5_1).toNat * 5)).block, (ad310.add ((x5_1).toNat * 5)).off + 2, none⟩ = some (.int .i64 ((rd_T38 l1 x5_1).f2)) ∧ w'.cell? ⟨(ad310.add ((x5_1).toNat * 5)).block, (ad310.add ((x5_1).toNat * 5)).off + 3, none⟩ = some (.int .i64 ((rd_T38 l1 x5_1).f3)) ∧ w'.cell? ⟨(ad310.add ((x5_1).toNat * 5)).block, (ad310.add ((x5_1).toNat * 5)).off + 4, none⟩ = some (.bool ((rd_T38 l1 x5_1).f4))) (ds := []) b15A0 zG83 rfl rfl ⟨((HB.out.cell (zb w _ hw309_0)).trans hw309_0), ((HB.out.cell (zb w _ hw309_1)).trans hw309_1), ((HB.out.cell (zb w _ hw309_2)).trans hw309_2), ((HB.out.cell (zb w _ hw309_3)).trans hw309_3), ((HB.out.cell (zb w _ hw309_4)).trans hw309_4), ((HB.out.cell (zb w _ hw310_0)).trans hw310_0), ((HB.out.cell (zb w _ hw310_1)).trans hw310_1), ((HB.out.cell (zb w _ hw310_2)).trans hw310_2), ((HB.out.cell (zb w _ hw310_3)).trans hw310_3), ((HB.out.cell (zb w _ hw310_4)).trans hw310_4)⟩ (fun hHeld => ?_); refine with_tabW laws_eqStockLotS.tab6 laws_eqStockLotS.bits6 (fun HT_ HW_ => ?_)
   generalize wr.drew = w9 at HB hx309_0 hx309_1 hx309_2 hx309_3 hx309_4 hx310_0 hx310_1 hx310_2 hx310_3 hx310_4 hHeld ⊢
   refine zP 0 17 b15A1 HT_ ?_
   refine zP 1 18 b15A2 HT_ ?_
   refine zP 2 19 b15A3 HT_ ?_
   refine zP 4 21 b15A4 HT_ ?_
   refine zP 5 22 b15A5 HT_ ?_
   refine zP 6 23 b15A6 HT_ ?_
   refine zQ 3 20 b15A7 HT_ HW_ hHeld ?_
   refine zQ 7 24 b15A8 HT_ HW_ hHeld ?_
   refine one_ (i := 8) (N := some 25) b15A9 rfl rfl (one_of HT_.out zG83) zG84 (fun K hK => ?_)
   refine goes_ Try.func47 zG83 rfl #[.agg (zl5 ((rd_T38 l0 x5_1).f0) ((rd_T38 l0 x5_1).f1) ((rd_T38 l0 x5_1).f2) ((rd_T38 l0 x5_1).f3) ((rd_T38 l0 x5_1).f4)), .agg (zl5 ((rd_T38 l1 x5_1).f0) ((rd_T38 l1 x5_1).f1) ((rd_T38 l1 x5_1).f2) ((rd_T38 l1 x5_1).f3) ((rd_T38 l1 x5_1).f4))] (by rfl) rfl rfl zG54 ?_
   with_reducible refine (laws_eqStockLot.calls ((rd_T38 l0 x5_1).f0) ((rd_T38 l0 x5_1).f1) ((rd_T38 l0 x5_1).f2) ((rd_T38 l0 x5_1).f3) ((rd_T38 l0 x5_1).f4) ((rd_T38 l1 x5_1).f0) ((rd_T38 l1 x5_1).f1) ((rd_T38 l1 x5_1).f2) ((rd_T38 l1 x5_1).f3) ((rd_T38 l1 x5_1).f4) true _ A7.out).mono ?_
   rintro e w10 ⟨rfl, hb⟩
   refine ⟨_, rfl, ?_⟩
   have n0_ := za (zr zG60 hb)
   clear HB
   have HB := n0_
   clear n0_
   (try clear hb)
   (try clear hb2)
   (try clear hk)
   (try clear hi)
   refine hK.out _ _ ⟨((HB.out.cell (zb w _ hw309_0)).trans hw309_0), ((HB.out.cell (zb w _ hw309_1)).trans hw309_1), ((HB.out.cell (zb w _ hw309_2)).trans hw309_2), ((HB.out.cell (zb w _ hw309_3)).trans hw309_3), ((HB.out.cell (zb w _ hw309_4)).trans hw309_4), ((HB.out.cell (zb w _ hw310_0)).trans hw310_0), ((HB.out.cell (zb w _ hw310_1)).trans hw310_1), ((HB.out.cell (zb w _ hw310_2)).trans hw310_2), ((HB.out.cell (zb w _ hw310_3)).trans hw310_3), ((HB.out.cell (zb w _ hw310_4)).trans hw310_4)⟩ (fun hHeld => ?_)
   clear hK K
   refine norm_ (a' := ?_) ?_ ?_
   rotate_left
   ·show Act.put _ (some 25) _ = _
    simp only [Act.put, List.setIfInBounds_toArray, List.set_cons_zero, List.set_cons_succ, i64_w, i32_w]
    rfl
   refine zP 9 26 b15A10 HT_ ?_
   refine done_ (done_of HT_.out zG83) ?_
   try go_wp2
   go_roundg k1
   case measure => have := HK1.out; omega
   case rel => exact ⟨(wrap64 (x5_1 + 1)), zG82, H', ⟨zH88⟩, ⟨zH60⟩⟩
/-! ### laws_eqStock: function 14 -/
def laws_eqStock.f (k : Nat) (a0_0 : Int) (a0_1 : Int) (a0_2 : Int) (a0_3 : Int) (a0_4 : Int) (l0_5 : List (S38)) (a1_0 : Int) (a1_1 : Int) (a1_2 : Int) (a1_3 : Int) (a1_4 : Int) (l1_5 : List (S38)) : Option (Bool) := if a0_0 = a1_0 then (if a0_1 = a1_1 then (if a0_2 = a1_2 then (if a0_3 = a1_3 then (if a0_4 = a1_4 then ((laws_eqStockLotS.f k l0_5 l1_5).bind fun t314 => (if t314 = true then (some true) else (some false))) else (some false)) else (some false)) else (some false)) else (some false)) else (some false)
theorem laws_eqStock.mono : ∀ a0 a1 a2 a3 a4 a5 a6 a7 a8 a9 a10 a11 k, LeO (laws_eqStock.f k a0 a1 a2 a3 a4 a5 a6 a7 a8 a9 a10 a11) (laws_eqStock.f (k + 1) a0 a1 a2 a3 a4 a5 a6 a7 a8 a9 a10 a11) := by
 intro a0 a1 a2 a3 a4 a5 a6 a7 a8 a9 a10 a11 k
 unfold laws_eqStock.f
 repeat' first
   | (with_reducible exact laws_eqStockLotS.mono _ _ _)
   | (with_reducible exact LeO.refl _)
   | (with_reducible exact LeO.none _)
   | (with_reducible refine LeO.ite ?_ ?_)
   | (with_reducible refine LeO.bind ?_ (fun _ => ?_))
   | exact laws_eqStockLotS.mono _ _ _
   | exact LeO.none _
   | refine LeO.ite ?_ ?_
   | refine LeO.bind ?_ (fun _ => ?_)
set_option maxHeartbeats 64000000 in
set_option maxRecDepth 100000 in
theorem laws_eqStock.calls (k : Nat) (a0_0 : Int) (a0_1 : Int) (a0_2 : Int) (a0_3 : Int) (a0_4 : Int) (A0_5 : Option Addr) (c0_5 : Nat) (l0_5 : List (S38)) (a1_0 : Int) (a1_1 : Int) (a1_2 : Int) (a1_3 : Int) (a1_4 : Int) (A1_5 : Option Addr) (c1_5 : Nat) (l1_5 : List (S38)) (r : Bool) (w : World) (hr0_5 : Kd.C k38 w A0_5 l0_5.length l0_5) (hc0_5 : l0_5.length ≤ c0_5) (hr1_5 : Kd.C k38 w A1_5 l1_5.length l1_5) (hc1_5 : l1_5.length ≤ c1_5) (h : laws_eqStock.f k a0_0 a0_1 a0_2 a0_3 a0_4 l0_5 a1_0 a1_1 a1_2 a1_3 a1_4 l1_5 = some r) :
  Calls Try.prog 14 #[.agg (zs6 a0_0 a0_1 a0_2 a0_3 a0_4 (.slice A0_5 l0_5.length c0_5)), .agg (zs6 a1_0 a1_1 a1_2 a1_3 a1_4 (.slice A1_5 l1_5.length c1_5))] w fun e w' => e = .returned (.bool r) ∧ Below w.heap.size w w' := by
 have hu29 := Try.underlying29
 obtain ⟨HR0_5, HC0_5, HR1_5, HC1_5, HB⟩ := zD5 hr0_5 hc0_5 hr1_5 hc1_5 (Below.refl w.heap.size w)
 clear hr0_5 hc0_5 hr1_5 hc1_5
 have H : (if a0_0 = a1_0 then (if a0_1 = a1_1 then (if a0_2 = a1_2 then (if a0_3 = a1_3 then (if a0_4 = a1_4 then ((laws_eqStockLotS.f k l0_5 l1_5).bind fun t314 => (if t314 = true then (some true) else (some false))) else (some false)) else (some false)) else (some false)) else (some false)) else (some false)) = some r := h
 clear h
 by_cases c3 : a0_0 = a1_0
 rotate_left
 ·rw [if_neg c3] at H
  have c3b0 : (a0_0 == a1_0) = false := beq_eq_false_iff_ne.mpr c3
  have c3b1 : (a0_0 != a1_0) = true := bne_iff_ne.mpr c3
  obtain rfl := Option.some.inj H
  go_enter Try.func14, Try.ntmps14
  go_wp2_with (first | ((with_reducible refine gate_dst (N := 2) rfl ?_); refine box_event ?hg (N := 2) ?hd (cs := (zs6 a0_0 a0_1 a0_2 a0_3 a0_4 (.slice A0_5 l0_5.length c0_5))) (t := 29) ?hr ?_; (case hd => rfl); (case hg => rfl); (case hr => exact zH83); intro gb312 hg w42 hbox hb; have n_ := zA_ (za (zr zG60 hb)) (zA_ (za (hbox)) (zA_ (zN1 w.heap.size hg (zp zG60)) (zN1 w.heap.size hg (zp zG60)))); clear HB; obtain ⟨HB, BK312, GW312, GE312⟩ := n_; clear hb hbox hg) | ((with_reducible refine gate_dst (N := 3) rfl ?_); refine box_event ?hg (N := 3) ?hd (cs := (zs6 a1_0 a1_1 a1_2 a1_3 a1_4 (.slice A1_5 l1_5.length c1_5))) (t := 29) ?hr ?_; (case hd => rfl); (case hg => rfl); (case hr => exact zH83); intro gb313 hg w43 hbox hb; have n_ := zA_ (za (zq (g := gb312) (o := .cells (zs6 a0_0 a0_1 a0_2 a0_3 a0_4 (.slice A0_5 l0_5.length c0_5)) 29 (0, 0)) zG63 hb)) (zA_ (za (zr zG57 hb)) (zA_ (za (hbox)) (zA_ (zN1 w.heap.size hg (zp zG57)) (zA_ (zN1 w.heap.size hg (zp zG57)) (zN2 hg (zv (g := gb312) (o := .cells (zs6 a0_0 a0_1 a0_2 a0_3 a0_4 (.slice A0_5 l0_5.length c0_5)) 29 (0, 0)) zG63)))))); clear BK312 HB; obtain ⟨BK312, HB, BK313, GW313, GE313, NB312_313, NB313_312⟩ := n_; clear hb hbox hg; have hnb44 := NB312_313.out; have hnc44 := NB313_312.out; have hcz45_0 : w43.cell? ⟨gb312, 0, none⟩ = some (.int .i64 a0_0) := (q15a BK312.out 0).trans rfl; have hcz45_1 : w43.cell? ⟨gb312, 1, none⟩ = some (.int .i64 a0_1) := (q15a BK312.out 1).trans rfl; have hcz45_2 : w43.cell? ⟨gb312, 2, none⟩ = some (.int .i64 a0_2) := (q15a BK312.out 2).trans rfl; have hcz45_3 : w43.cell? ⟨gb312, 3, none⟩ = some (.int .i64 a0_3) := (q15a BK312.out 3).trans rfl; have hcz45_4 : w43.cell? ⟨gb312, 4, none⟩ = some (.int .i64 a0_4) := (q15a BK312.out 4).trans rfl; have hcz45_5 : w43.cell? ⟨gb312, 5, none⟩ = some (.slice A0_5 l0_5.length c0_5) := (q15a BK312.out 5).trans rfl; have hfz45_0 := zc BK312.out 0; have hfz45_1 := zc BK312.out 1; have hfz45_2 := zc BK312.out 2; have hfz45_3 := zc BK312.out 3; have hfz45_4 := zc BK312.out 4; have hfz45_5 := zc BK312.out 5; have hcz46_0 : w43.cell? ⟨gb313, 0, none⟩ = some (.int .i64 a1_0) := (q15a BK313.out 0).trans rfl; have hcz46_1 : w43.cell? ⟨gb313, 1, none⟩ = some (.int .i64 a1_1) := (q15a BK313.out 1).trans rfl; have hcz46_2 : w43.cell? ⟨gb313, 2, none⟩ = some (.int .i64 a1_2) := (q15a BK313.out 2).trans rfl; have hcz46_3 : w43.cell? ⟨gb313, 3, none⟩ = some (.int .i64 a1_3) := (q15a BK313.out 3).trans rfl; have hcz46_4 : w43.cell? ⟨gb313, 4, none⟩ = some (.int .i64 a1_4) := (q15a BK313.out 4).trans rfl; have hcz46_5 : w43.cell? ⟨gb313, 5, none⟩ = some (.slice A1_5 l1_5.length c1_5) := (q15a BK313.out 5).trans rfl; have hfz46_0 := zc BK313.out 0; have hfz46_1 := zc BK313.out 1; have hfz46_2 := zc BK313.out 2; have hfz46_3 := zc BK313.out 3; have hfz46_4 := zc BK313.out 4; have hfz46_5 := zc BK313.out 5))
  go_ret
  exact zH10

 rw [if_pos c3] at H
 have c3b0 : (a0_0 == a1_0) = true := beq_iff_eq.mpr c3
 have c3b1 : (a0_0 != a1_0) = false := bne_eq_false_iff_eq.mpr c3
 clear c3
 by_cases c4 : a0_1 = a1_1
 rotate_left
 ·rw [if_neg c4] at H
  have c4b0 : (a0_1 == a1_1) = false := beq_eq_false_iff_ne.mpr c4
  have c4b1 : (a0_1 != a1_1) = true := bne_iff_ne.mpr c4
  obtain rfl := Option.some.inj H
  go_enter Try.func14, Try.ntmps14
  go_wp2_with (first | ((with_reducible refine gate_dst (N := 2) rfl ?_); refine box_event ?hg (N := 2) ?hd (cs := (zs6 a0_0 a0_1 a0_2 a0_3 a0_4 (.slice A0_5 l0_5.length c0_5))) (t := 29) ?hr ?_; (case hd => rfl); (case hg => rfl); (case hr => exact zH83); intro gb312 hg w37 hbox hb; have n_ := zA_ (za (zr zG60 hb)) (zA_ (za (hbox)) (zA_ (zN1 w.heap.size hg (zp zG60)) (zN1 w.heap.size hg (zp zG60)))); clear HB; obtain ⟨HB, BK312, GW312, GE312⟩ := n_; clear hb hbox hg) | ((with_reducible refine gate_dst (N := 3) rfl ?_); refine box_event ?hg (N := 3) ?hd (cs := (zs6 a1_0 a1_1 a1_2 a1_3 a1_4 (.slice A1_5 l1_5.length c1_5))) (t := 29) ?hr ?_; (case hd => rfl); (case hg => rfl); (case hr => exact zH83); intro gb313 hg w38 hbox hb; have n_ := zA_ (za (zq (g := gb312) (o := .cells (zs6 a0_0 a0_1 a0_2 a0_3 a0_4 (.slice A0_5 l0_5.length c0_5)) 29 (0, 0)) zG63 hb)) (zA_ (za (zr zG57 hb)) (zA_ (za (hbox)) (zA_ (zN1 w.heap.size hg (zp zG57)) (zA_ (zN1 w.heap.size hg (zp zG57)) (zN2 hg (zv (g := gb312) (o := .cells (zs6 a0_0 a0_1 a0_2 a0_3 a0_4 (.slice A0_5 l0_5.length c0_5)) 29 (0, 0)) zG63)))))); clear BK312 HB; obtain ⟨BK312, HB, BK313, GW313, GE313, NB312_313, NB313_312⟩ := n_; clear hb hbox hg; have hnb39 := NB312_313.out; have hnc39 := NB313_312.out; have hcz40_0 : w38.cell? ⟨gb312, 0, none⟩ = some (.int .i64 a0_0) := (q15a BK312.out 0).trans rfl; have hcz40_1 : w38.cell? ⟨gb312, 1, none⟩ = some (.int .i64 a0_1) := (q15a BK312.out 1).trans rfl; have hcz40_2 : w38.cell? ⟨gb312, 2, none⟩ = some (.int .i64 a0_2) := (q15a BK312.out 2).trans rfl; have hcz40_3 : w38.cell? ⟨gb312, 3, none⟩ = some (.int .i64 a0_3) := (q15a BK312.out 3).trans rfl; have hcz40_4 : w38.cell? ⟨gb312, 4, none⟩ = some (.int .i64 a0_4) := (q15a BK312.out 4).trans rfl; have hcz40_5 : w38.cell? ⟨gb312, 5, none⟩ = some (.slice A0_5 l0_5.length c0_5) := (q15a BK312.out 5).trans rfl; have hfz40_0 := zc BK312.out 0; have hfz40_1 := zc BK312.out 1; have hfz40_2 := zc BK312.out 2; have hfz40_3 := zc BK312.out 3; have hfz40_4 := zc BK312.out 4; have hfz40_5 := zc BK312.out 5; have hcz41_0 : w38.cell? ⟨gb313, 0, none⟩ = some (.int .i64 a1_0) := (q15a BK313.out 0).trans rfl; have hcz41_1 : w38.cell? ⟨gb313, 1, none⟩ = some (.int .i64 a1_1) := (q15a BK313.out 1).trans rfl; have hcz41_2 : w38.cell? ⟨gb313, 2, none⟩ = some (.int .i64 a1_2) := (q15a BK313.out 2).trans rfl; have hcz41_3 : w38.cell? ⟨gb313, 3, none⟩ = some (.int .i64 a1_3) := (q15a BK313.out 3).trans rfl; have hcz41_4 : w38.cell? ⟨gb313, 4, none⟩ = some (.int .i64 a1_4) := (q15a BK313.out 4).trans rfl; have hcz41_5 : w38.cell? ⟨gb313, 5, none⟩ = some (.slice A1_5 l1_5.length c1_5) := (q15a BK313.out 5).trans rfl; have hfz41_0 := zc BK313.out 0; have hfz41_1 := zc BK313.out 1; have hfz41_2 := zc BK313.out 2; have hfz41_3 := zc BK313.out 3; have hfz41_4 := zc BK313.out 4; have hfz41_5 := zc BK313.out 5))
  go_ret
  exact zH10
 rw [if_pos c4] at H
 have c4b0 : (a0_1 == a1_1) = true := beq_iff_eq.mpr c4
 have c4b1 : (a0_1 != a1_1) = false := bne_eq_false_iff_eq.mpr c4
 clear c4
 by_cases c5 : a0_2 = a1_2
 rotate_left
 ·rw [if_neg c5] at H
  have c5b0 : (a0_2 == a1_2) = false := beq_eq_false_iff_ne.mpr c5
  have c5b1 : (a0_2 != a1_2) = true := bne_iff_ne.mpr c5
  obtain rfl := Option.some.inj H
  go_enter Try.func14, Try.ntmps14
  go_wp2_with (first | ((with_reducible refine gate_dst (N := 2) rfl ?_); refine box_event ?hg (N := 2) ?hd (cs := (zs6 a0_0 a0_1 a0_2 a0_3 a0_4 (.slice A0_5 l0_5.length c0_5))) (t := 29) ?hr ?_; (case hd => rfl); (case hg => rfl); (case hr => exact zH83); intro gb312 hg w32 hbox hb; have n_ := zA_ (za (zr zG60 hb)) (zA_ (za (hbox)) (zA_ (zN1 w.heap.size hg (zp zG60)) (zN1 w.heap.size hg (zp zG60)))); clear HB; obtain ⟨HB, BK312, GW312, GE312⟩ := n_; clear hb hbox hg) | ((with_reducible refine gate_dst (N := 3) rfl ?_); refine box_event ?hg (N := 3) ?hd (cs := (zs6 a1_0 a1_1 a1_2 a1_3 a1_4 (.slice A1_5 l1_5.length c1_5))) (t := 29) ?hr ?_; (case hd => rfl); (case hg => rfl); (case hr => exact zH83); intro gb313 hg w33 hbox hb; have n_ := zA_ (za (zq (g := gb312) (o := .cells (zs6 a0_0 a0_1 a0_2 a0_3 a0_4 (.slice A0_5 l0_5.length c0_5)) 29 (0, 0)) zG63 hb)) (zA_ (za (zr zG57 hb)) (zA_ (za (hbox)) (zA_ (zN1 w.heap.size hg (zp zG57)) (zA_ (zN1 w.heap.size hg (zp zG57)) (zN2 hg (zv (g := gb312) (o := .cells (zs6 a0_0 a0_1 a0_2 a0_3 a0_4 (.slice A0_5 l0_5.length c0_5)) 29 (0, 0)) zG63)))))); clear BK312 HB; obtain ⟨BK312, HB, BK313, GW313, GE313, NB312_313, NB313_312⟩ := n_; clear hb hbox hg; have hnb34 := NB312_313.out; have hnc34 := NB313_312.out; have hcz35_0 : w33.cell? ⟨gb312, 0, none⟩ = some (.int .i64 a0_0) := (q15a BK312.out 0).trans rfl; have hcz35_1 : w33.cell? ⟨gb312, 1, none⟩ = some (.int .i64 a0_1) := (q15a BK312.out 1).trans rfl; have hcz35_2 : w33.cell? ⟨gb312, 2, none⟩ = some (.int .i64 a0_2) := (q15a BK312.out 2).trans rfl; have hcz35_3 : w33.cell? ⟨gb312, 3, none⟩ = some (.int .i64 a0_3) := (q15a BK312.out 3).trans rfl; have hcz35_4 : w33.cell? ⟨gb312, 4, none⟩ = some (.int .i64 a0_4) := (q15a BK312.out 4).trans rfl; have hcz35_5 : w33.cell? ⟨gb312, 5, none⟩ = some (.slice A0_5 l0_5.length c0_5) := (q15a BK312.out 5).trans rfl; have hfz35_0 := zc BK312.out 0; have hfz35_1 := zc BK312.out 1; have hfz35_2 := zc BK312.out 2; have hfz35_3 := zc BK312.out 3; have hfz35_4 := zc BK312.out 4; have hfz35_5 := zc BK312.out 5; have hcz36_0 : w33.cell? ⟨gb313, 0, none⟩ = some (.int .i64 a1_0) := (q15a BK313.out 0).trans rfl; have hcz36_1 : w33.cell? ⟨gb313, 1, none⟩ = some (.int .i64 a1_1) := (q15a BK313.out 1).trans rfl; have hcz36_2 : w33.cell? ⟨gb313, 2, none⟩ = some (.int .i64 a1_2) := (q15a BK313.out 2).trans rfl; have hcz36_3 : w33.cell? ⟨gb313, 3, none⟩ = some (.int .i64 a1_3) := (q15a BK313.out 3).trans rfl; have hcz36_4 : w33.cell? ⟨gb313, 4, none⟩ = some (.int .i64 a1_4) := (q15a BK313.out 4).trans rfl; have hcz36_5 : w33.cell? ⟨gb313, 5, none⟩ = some (.slice A1_5 l1_5.length c1_5) := (q15a BK313.out 5).trans rfl; have hfz36_0 := zc BK313.out 0; have hfz36_1 := zc BK313.out 1; have hfz36_2 := zc BK313.out 2; have hfz36_3 := zc BK313.out 3; have hfz36_4 := zc BK313.out 4; have hfz36_5 := zc BK313.out 5))
  go_ret
  exact zH10
 rw [if_pos c5] at H
 have c5b0 : (a0_2 == a1_2) = true := beq_iff_eq.mpr c5
 have c5b1 : (a0_2 != a1_2) = false := bne_eq_false_iff_eq.mpr c5
 clear c5
 by_cases c6 : a0_3 = a1_3
 rotate_left
 ·rw [if_neg c6] at H
  have c6b0 : (a0_3 == a1_3) = false := beq_eq_false_iff_ne.mpr c6
  have c6b1 : (a0_3 != a1_3) = true := bne_iff_ne.mpr c6
  obtain rfl := Option.some.inj H
  go_enter Try.func14, Try.ntmps14
  go_wp2_with (first | ((with_reducible refine gate_dst (N := 2) rfl ?_); refine box_event ?hg (N := 2) ?hd (cs := (zs6 a0_0 a0_1 a0_2 a0_3 a0_4 (.slice A0_5 l0_5.length c0_5))) (t := 29) ?hr ?_; (case hd => rfl); (case hg => rfl); (case hr => exact zH83); intro gb312 hg w27 hbox hb; have n_ := zA_ (za (zr zG60 hb)) (zA_ (za (hbox)) (zA_ (zN1 w.heap.size hg (zp zG60)) (zN1 w.heap.size hg (zp zG60)))); clear HB; obtain ⟨HB, BK312, GW312, GE312⟩ := n_; clear hb hbox hg) | ((with_reducible refine gate_dst (N := 3) rfl ?_); refine box_event ?hg (N := 3) ?hd (cs := (zs6 a1_0 a1_1 a1_2 a1_3 a1_4 (.slice A1_5 l1_5.length c1_5))) (t := 29) ?hr ?_; (case hd => rfl); (case hg => rfl); (case hr => exact zH83); intro gb313 hg w28 hbox hb; have n_ := zA_ (za (zq (g := gb312) (o := .cells (zs6 a0_0 a0_1 a0_2 a0_3 a0_4 (.slice A0_5 l0_5.length c0_5)) 29 (0, 0)) zG63 hb)) (zA_ (za (zr zG57 hb)) (zA_ (za (hbox)) (zA_ (zN1 w.heap.size hg (zp zG57)) (zA_ (zN1 w.heap.size hg (zp zG57)) (zN2 hg (zv (g := gb312) (o := .cells (zs6 a0_0 a0_1 a0_2 a0_3 a0_4 (.slice A0_5 l0_5.length c0_5)) 29 (0, 0)) zG63)))))); clear BK312 HB; obtain ⟨BK312, HB, BK313, GW313, GE313, NB312_313, NB313_312⟩ := n_; clear hb hbox hg; have hnb29 := NB312_313.out; have hnc29 := NB313_312.out; have hcz30_0 : w28.cell? ⟨gb312, 0, none⟩ = some (.int .i64 a0_0) := (q15a BK312.out 0).trans rfl; have hcz30_1 : w28.cell? ⟨gb312, 1, none⟩ = some (.int .i64 a0_1) := (q15a BK312.out 1).trans rfl; have hcz30_2 : w28.cell? ⟨gb312, 2, none⟩ = some (.int .i64 a0_2) := (q15a BK312.out 2).trans rfl; have hcz30_3 : w28.cell? ⟨gb312, 3, none⟩ = some (.int .i64 a0_3) := (q15a BK312.out 3).trans rfl; have hcz30_4 : w28.cell? ⟨gb312, 4, none⟩ = some (.int .i64 a0_4) := (q15a BK312.out 4).trans rfl; have hcz30_5 : w28.cell? ⟨gb312, 5, none⟩ = some (.slice A0_5 l0_5.length c0_5) := (q15a BK312.out 5).trans rfl; have hfz30_0 := zc BK312.out 0; have hfz30_1 := zc BK312.out 1; have hfz30_2 := zc BK312.out 2; have hfz30_3 := zc BK312.out 3; have hfz30_4 := zc BK312.out 4; have hfz30_5 := zc BK312.out 5; have hcz31_0 : w28.cell? ⟨gb313, 0, none⟩ = some (.int .i64 a1_0) := (q15a BK313.out 0).trans rfl; have hcz31_1 : w28.cell? ⟨gb313, 1, none⟩ = some (.int .i64 a1_1) := (q15a BK313.out 1).trans rfl; have hcz31_2 : w28.cell? ⟨gb313, 2, none⟩ = some (.int .i64 a1_2) := (q15a BK313.out 2).trans rfl; have hcz31_3 : w28.cell? ⟨gb313, 3, none⟩ = some (.int .i64 a1_3) := (q15a BK313.out 3).trans rfl; have hcz31_4 : w28.cell? ⟨gb313, 4, none⟩ = some (.int .i64 a1_4) := (q15a BK313.out 4).trans rfl; have hcz31_5 : w28.cell? ⟨gb313, 5, none⟩ = some (.slice A1_5 l1_5.length c1_5) := (q15a BK313.out 5).trans rfl; have hfz31_0 := zc BK313.out 0; have hfz31_1 := zc BK313.out 1; have hfz31_2 := zc BK313.out 2; have hfz31_3 := zc BK313.out 3; have hfz31_4 := zc BK313.out 4; have hfz31_5 := zc BK313.out 5))
  go_ret
  exact zH10
 rw [if_pos c6] at H
 have c6b0 : (a0_3 == a1_3) = true := beq_iff_eq.mpr c6
 have c6b1 : (a0_3 != a1_3) = false := bne_eq_false_iff_eq.mpr c6
 clear c6
 by_cases c7 : a0_4 = a1_4
 rotate_left
 ·rw [if_neg c7] at H
  have c7b0 : (a0_4 == a1_4) = false := beq_eq_false_iff_ne.mpr c7
  have c7b1 : (a0_4 != a1_4) = true := bne_iff_ne.mpr c7
  obtain rfl := Option.some.inj H
  go_enter Try.func14, Try.ntmps14
  go_wp2_with (first | ((with_reducible refine gate_dst (N := 2) rfl ?_); refine box_event ?hg (N := 2) ?hd (cs := (zs6 a0_0 a0_1 a0_2 a0_3 a0_4 (.slice A0_5 l0_5.length c0_5))) (t := 29) ?hr ?_; (case hd => rfl); (case hg => rfl); (case hr => exact zH83); intro gb312 hg w22 hbox hb; have n_ := zA_ (za (zr zG60 hb)) (zA_ (za (hbox)) (zA_ (zN1 w.heap.size hg (zp zG60)) (zN1 w.heap.size hg (zp zG60)))); clear HB; obtain ⟨HB, BK312, GW312, GE312⟩ := n_; clear hb hbox hg) | ((with_reducible refine gate_dst (N := 3) rfl ?_); refine box_event ?hg (N := 3) ?hd (cs := (zs6 a1_0 a1_1 a1_2 a1_3 a1_4 (.slice A1_5 l1_5.length c1_5))) (t := 29) ?hr ?_; (case hd => rfl); (case hg => rfl); (case hr => exact zH83); intro gb313 hg w23 hbox hb; have n_ := zA_ (za (zq (g := gb312) (o := .cells (zs6 a0_0 a0_1 a0_2 a0_3 a0_4 (.slice A0_5 l0_5.length c0_5)) 29 (0, 0)) zG63 hb)) (zA_ (za (zr zG57 hb)) (zA_ (za (hbox)) (zA_ (zN1 w.heap.size hg (zp zG57)) (zA_ (zN1 w.heap.size hg (zp zG57)) (zN2 hg (zv (g := gb312) (o := .cells (zs6 a0_0 a0_1 a0_2 a0_3 a0_4 (.slice A0_5 l0_5.length c0_5)) 29 (0, 0)) zG63)))))); clear BK312 HB; obtain ⟨BK312, HB, BK313, GW313, GE313, NB312_313, NB313_312⟩ := n_; clear hb hbox hg; have hnb24 := NB312_313.out; have hnc24 := NB313_312.out; have hcz25_0 : w23.cell? ⟨gb312, 0, none⟩ = some (.int .i64 a0_0) := (q15a BK312.out 0).trans rfl; have hcz25_1 : w23.cell? ⟨gb312, 1, none⟩ = some (.int .i64 a0_1) := (q15a BK312.out 1).trans rfl; have hcz25_2 : w23.cell? ⟨gb312, 2, none⟩ = some (.int .i64 a0_2) := (q15a BK312.out 2).trans rfl; have hcz25_3 : w23.cell? ⟨gb312, 3, none⟩ = some (.int .i64 a0_3) := (q15a BK312.out 3).trans rfl; have hcz25_4 : w23.cell? ⟨gb312, 4, none⟩ = some (.int .i64 a0_4) := (q15a BK312.out 4).trans rfl; have hcz25_5 : w23.cell? ⟨gb312, 5, none⟩ = some (.slice A0_5 l0_5.length c0_5) := (q15a BK312.out 5).trans rfl; have hfz25_0 := zc BK312.out 0; have hfz25_1 := zc BK312.out 1; have hfz25_2 := zc BK312.out 2; have hfz25_3 := zc BK312.out 3; have hfz25_4 := zc BK312.out 4; have hfz25_5 := zc BK312.out 5; have hcz26_0 : w23.cell? ⟨gb313, 0, none⟩ = some (.int .i64 a1_0) := (q15a BK313.out 0).trans rfl; have hcz26_1 : w23.cell? ⟨gb313, 1, none⟩ = some (.int .i64 a1_1) := (q15a BK313.out 1).trans rfl; have hcz26_2 : w23.cell? ⟨gb313, 2, none⟩ = some (.int .i64 a1_2) := (q15a BK313.out 2).trans rfl; have hcz26_3 : w23.cell? ⟨gb313, 3, none⟩ = some (.int .i64 a1_3) := (q15a BK313.out 3).trans rfl; have hcz26_4 : w23.cell? ⟨gb313, 4, none⟩ = some (.int .i64 a1_4) := (q15a BK313.out 4).trans rfl; have hcz26_5 : w23.cell? ⟨gb313, 5, none⟩ = some (.slice A1_5 l1_5.length c1_5) := (q15a BK313.out 5).trans rfl; have hfz26_0 := zc BK313.out 0; have hfz26_1 := zc BK313.out 1; have hfz26_2 := zc BK313.out 2; have hfz26_3 := zc BK313.out 3; have hfz26_4 := zc BK313.out 4; have hfz26_5 := zc BK313.out 5))
  go_ret
  exact zH10
 rw [if_pos c7] at H
 have c7b0 : (a0_4 == a1_4) = true := beq_iff_eq.mpr c7
 have c7b1 : (a0_4 != a1_4) = false := bne_eq_false_iff_eq.mpr c7
 clear c7
 replace H := Option.bind_eq_some_iff.mp H
 obtain ⟨t314, A80, H⟩ := H
 replace H : (if t314 = true then (some true) else (some false)) = some r := H
 have A8 := za A80
 clear A80
 by_cases c9 : t314 = true
 ·subst c9
  have H1 : (some true) = some r := by rw [if_pos rfl] at H; exact H
  clear H
  have H := H1
  clear H1
  obtain rfl := Option.some.inj H
  go_enter Try.func14, Try.ntmps14
  go_wp2_with (first | ((with_reducible refine gate_dst (N := 2) rfl ?_); refine box_event ?hg (N := 2) ?hd (cs := (zs6 a0_0 a0_1 a0_2 a0_3 a0_4 (.slice A0_5 l0_5.length c0_5))) (t := 29) ?hr ?_; (case hd => rfl); (case hg => rfl); (case hr => exact zH83); intro gb312 hg w10 hbox hb; have n_ := zA_ (za (zr zG60 hb)) (zA_ (za (hbox)) (zA_ (zN1 w.heap.size hg (zp zG60)) (zN1 w.heap.size hg (zp zG60)))); clear HB; obtain ⟨HB, BK312, GW312, GE312⟩ := n_; clear hb hbox hg) | ((with_reducible refine gate_dst (N := 3) rfl ?_); refine box_event ?hg (N := 3) ?hd (cs := (zs6 a1_0 a1_1 a1_2 a1_3 a1_4 (.slice A1_5 l1_5.length c1_5))) (t := 29) ?hr ?_; (case hd => rfl); (case hg => rfl); (case hr => exact zH83); intro gb313 hg w11 hbox hb; have n_ := zA_ (za (zq (g := gb312) (o := .cells (zs6 a0_0 a0_1 a0_2 a0_3 a0_4 (.slice A0_5 l0_5.length c0_5)) 29 (0, 0)) zG63 hb)) (zA_ (za (zr zG57 hb)) (zA_ (za (hbox)) (zA_ (zN1 w.heap.size hg (zp zG57)) (zA_ (zN1 w.heap.size hg (zp zG57)) (zN2 hg (zv (g := gb312) (o := .cells (zs6 a0_0 a0_1 a0_2 a0_3 a0_4 (.slice A0_5 l0_5.length c0_5)) 29 (0, 0)) zG63)))))); clear BK312 HB; obtain ⟨BK312, HB, BK313, GW313, GE313, NB312_313, NB313_312⟩ := n_; clear hb hbox hg; have hnb12 := NB312_313.out; have hnc12 := NB313_312.out; have hcz13_0 : w11.cell? ⟨gb312, 0, none⟩ = some (.int .i64 a0_0) := (q15a BK312.out 0).trans rfl; have hcz13_1 : w11.cell? ⟨gb312, 1, none⟩ = some (.int .i64 a0_1) := (q15a BK312.out 1).trans rfl; have hcz13_2 : w11.cell? ⟨gb312, 2, none⟩ = some (.int .i64 a0_2) := (q15a BK312.out 2).trans rfl; have hcz13_3 : w11.cell? ⟨gb312, 3, none⟩ = some (.int .i64 a0_3) := (q15a BK312.out 3).trans rfl; have hcz13_4 : w11.cell? ⟨gb312, 4, none⟩ = some (.int .i64 a0_4) := (q15a BK312.out 4).trans rfl; have hcz13_5 : w11.cell? ⟨gb312, 5, none⟩ = some (.slice A0_5 l0_5.length c0_5) := (q15a BK312.out 5).trans rfl; have hfz13_0 := zc BK312.out 0; have hfz13_1 := zc BK312.out 1; have hfz13_2 := zc BK312.out 2; have hfz13_3 := zc BK312.out 3; have hfz13_4 := zc BK312.out 4; have hfz13_5 := zc BK312.out 5; have hcz14_0 : w11.cell? ⟨gb313, 0, none⟩ = some (.int .i64 a1_0) := (q15a BK313.out 0).trans rfl; have hcz14_1 : w11.cell? ⟨gb313, 1, none⟩ = some (.int .i64 a1_1) := (q15a BK313.out 1).trans rfl; have hcz14_2 : w11.cell? ⟨gb313, 2, none⟩ = some (.int .i64 a1_2) := (q15a BK313.out 2).trans rfl; have hcz14_3 : w11.cell? ⟨gb313, 3, none⟩ = some (.int .i64 a1_3) := (q15a BK313.out 3).trans rfl; have hcz14_4 : w11.cell? ⟨gb313, 4, none⟩ = some (.int .i64 a1_4) := (q15a BK313.out 4).trans rfl; have hcz14_5 : w11.cell? ⟨gb313, 5, none⟩ = some (.slice A1_5 l1_5.length c1_5) := (q15a BK313.out 5).trans rfl; have hfz14_0 := zc BK313.out 0; have hfz14_1 := zc BK313.out 1; have hfz14_2 := zc BK313.out 2; have hfz14_3 := zc BK313.out 3; have hfz14_4 := zc BK313.out 4; have hfz14_5 := zc BK313.out 5) | ((with_reducible refine gate_callee (f := 29) rfl ?_); refine goesL_ (some 34) rfl rfl Try.func29 zG83 rfl #[.slice A0_5 l0_5.length c0_5, .slice A1_5 l1_5.length c1_5] rfl zG54 ?_; (with_reducible refine (laws_eqStockLotS.calls k _ _ l0_5 _ _ l1_5 true _ ?side1 ?side2 ?side3 ?side4 A8.out).mono ?_); (case side1 => exact zH39); (case side2 => exact HC0_5.out); (case side3 => exact zH38); (case side4 => exact HC1_5.out); rintro e w15 ⟨rfl, hb⟩; refine ⟨_, rfl, ?_⟩; have n_ := zA_ (za (zq (g := gb312) (o := .cells (zs6 a0_0 a0_1 a0_2 a0_3 a0_4 (.slice A0_5 l0_5.length c0_5)) 29 (0, 0)) zG63 hb)) (zA_ (za (zq (g := gb313) (o := .cells (zs6 a1_0 a1_1 a1_2 a1_3 a1_4 (.slice A1_5 l1_5.length c1_5)) 29 (0, 0)) (by (with_reducible repeat (first | refine zf ?_ _ | refine zg ?_ | refine ze ?_ _)); exact BK313.out) hb)) (za (zr zK141 hb))); clear BK312 BK313 HB; obtain ⟨BK312, BK313, HB⟩ := n_; (try clear hb)))
  go_ret
  exact zH10
 replace c9 := Bool.eq_false_iff.mpr c9
 subst c9
 have H1 : (some false) = some r := by rw [if_neg (show ¬ (false = true) by decide)] at H; exact H
 clear H
 have H := H1
 clear H1
 obtain rfl := Option.some.inj H
 go_enter Try.func14, Try.ntmps14
 go_wp2_with (first | ((with_reducible refine gate_dst (N := 2) rfl ?_); refine box_event ?hg (N := 2) ?hd (cs := (zs6 a0_0 a0_1 a0_2 a0_3 a0_4 (.slice A0_5 l0_5.length c0_5))) (t := 29) ?hr ?_; (case hd => rfl); (case hg => rfl); (case hr => exact zH83); intro gb312 hg w16 hbox hb; have n_ := zA_ (za (zr zG60 hb)) (zA_ (za (hbox)) (zA_ (zN1 w.heap.size hg (zp zG60)) (zN1 w.heap.size hg (zp zG60)))); clear HB; obtain ⟨HB, BK312, GW312, GE312⟩ := n_; clear hb hbox hg) | ((with_reducible refine gate_dst (N := 3) rfl ?_); refine box_event ?hg (N := 3) ?hd (cs := (zs6 a1_0 a1_1 a1_2 a1_3 a1_4 (.slice A1_5 l1_5.length c1_5))) (t := 29) ?hr ?_; (case hd => rfl); (case hg => rfl); (case hr => exact zH83); intro gb313 hg w17 hbox hb; have n_ := zA_ (za (zq (g := gb312) (o := .cells (zs6 a0_0 a0_1 a0_2 a0_3 a0_4 (.slice A0_5 l0_5.length c0_5)) 29 (0, 0)) zG63 hb)) (zA_ (za (zr zG57 hb)) (zA_ (za (hbox)) (zA_ (zN1 w.heap.size hg (zp zG57)) (zA_ (zN1 w.heap.size hg (zp zG57)) (zN2 hg (zv (g := gb312) (o := .cells (zs6 a0_0 a0_1 a0_2 a0_3 a0_4 (.slice A0_5 l0_5.length c0_5)) 29 (0, 0)) zG63)))))); clear BK312 HB; obtain ⟨BK312, HB, BK313, GW313, GE313, NB312_313, NB313_312⟩ := n_; clear hb hbox hg; have hnb18 := NB312_313.out; have hnc18 := NB313_312.out; have hcz19_0 : w17.cell? ⟨gb312, 0, none⟩ = some (.int .i64 a0_0) := (q15a BK312.out 0).trans rfl; have hcz19_1 : w17.cell? ⟨gb312, 1, none⟩ = some (.int .i64 a0_1) := (q15a BK312.out 1).trans rfl; have hcz19_2 : w17.cell? ⟨gb312, 2, none⟩ = some (.int .i64 a0_2) := (q15a BK312.out 2).trans rfl; have hcz19_3 : w17.cell? ⟨gb312, 3, none⟩ = some (.int .i64 a0_3) := (q15a BK312.out 3).trans rfl; have hcz19_4 : w17.cell? ⟨gb312, 4, none⟩ = some (.int .i64 a0_4) := (q15a BK312.out 4).trans rfl; have hcz19_5 : w17.cell? ⟨gb312, 5, none⟩ = some (.slice A0_5 l0_5.length c0_5) := (q15a BK312.out 5).trans rfl; have hfz19_0 := zc BK312.out 0; have hfz19_1 := zc BK312.out 1; have hfz19_2 := zc BK312.out 2; have hfz19_3 := zc BK312.out 3; have hfz19_4 := zc BK312.out 4; have hfz19_5 := zc BK312.out 5; have hcz20_0 : w17.cell? ⟨gb313, 0, none⟩ = some (.int .i64 a1_0) := (q15a BK313.out 0).trans rfl; have hcz20_1 : w17.cell? ⟨gb313, 1, none⟩ = some (.int .i64 a1_1) := (q15a BK313.out 1).trans rfl; have hcz20_2 : w17.cell? ⟨gb313, 2, none⟩ = some (.int .i64 a1_2) := (q15a BK313.out 2).trans rfl; have hcz20_3 : w17.cell? ⟨gb313, 3, none⟩ = some (.int .i64 a1_3) := (q15a BK313.out 3).trans rfl; have hcz20_4 : w17.cell? ⟨gb313, 4, none⟩ = some (.int .i64 a1_4) := (q15a BK313.out 4).trans rfl; have hcz20_5 : w17.cell? ⟨gb313, 5, none⟩ = some (.slice A1_5 l1_5.length c1_5) := (q15a BK313.out 5).trans rfl; have hfz20_0 := zc BK313.out 0; have hfz20_1 := zc BK313.out 1; have hfz20_2 := zc BK313.out 2; have hfz20_3 := zc BK313.out 3; have hfz20_4 := zc BK313.out 4; have hfz20_5 := zc BK313.out 5) | ((with_reducible refine gate_callee (f := 29) rfl ?_); refine goesL_ (some 34) rfl rfl Try.func29 zG83 rfl #[.slice A0_5 l0_5.length c0_5, .slice A1_5 l1_5.length c1_5] rfl zG54 ?_; (with_reducible refine (laws_eqStockLotS.calls k _ _ l0_5 _ _ l1_5 false _ ?side1 ?side2 ?side3 ?side4 A8.out).mono ?_); (case side1 => exact zH39); (case side2 => exact HC0_5.out); (case side3 => exact zH38); (case side4 => exact HC1_5.out); rintro e w21 ⟨rfl, hb⟩; refine ⟨_, rfl, ?_⟩; have n_ := zA_ (za (zq (g := gb312) (o := .cells (zs6 a0_0 a0_1 a0_2 a0_3 a0_4 (.slice A0_5 l0_5.length c0_5)) 29 (0, 0)) zG63 hb)) (zA_ (za (zq (g := gb313) (o := .cells (zs6 a1_0 a1_1 a1_2 a1_3 a1_4 (.slice A1_5 l1_5.length c1_5)) 29 (0, 0)) (by (with_reducible repeat (first | refine zf ?_ _ | refine zg ?_ | refine ze ?_ _)); exact BK313.out) hb)) (za (zr zK141 hb))); clear BK312 BK313 HB; obtain ⟨BK312, BK313, HB⟩ := n_; (try clear hb)))
 go_ret
 exact zH10
/-! ### laws_eqStockAct: function 30 -/
def laws_eqStockAct.f (a0_0 : Int) (a0_1 : ByteArray) (a0_2 : Int) (a0_3 : Int) (a0_4 : Int) (a1_0 : Int) (a1_1 : ByteArray) (a1_2 : Int) (a1_3 : Int) (a1_4 : Int) : Option (Bool) := if a0_0 = a1_0 then (if a0_1.toList = a1_1.toList then (if a0_2 = a1_2 then (if a0_3 = a1_3 then (if a0_4 = a1_4 then (some true) else (some false)) else (some false)) else (some false)) else (some false)) else (some false)
set_option maxHeartbeats 64000000 in
set_option maxRecDepth 100000 in
theorem laws_eqStockAct.calls (a0_0 : Int) (a0_1 : ByteArray) (a0_2 : Int) (a0_3 : Int) (a0_4 : Int) (a1_0 : Int) (a1_1 : ByteArray) (a1_2 : Int) (a1_3 : Int) (a1_4 : Int) (r : Bool) (w : World) (h : laws_eqStockAct.f a0_0 a0_1 a0_2 a0_3 a0_4 a1_0 a1_1 a1_2 a1_3 a1_4 = some r) :
  Calls Try.prog 30 #[.agg (za5 a0_0 a0_1 a0_2 a0_3 a0_4), .agg (za5 a1_0 a1_1 a1_2 a1_3 a1_4)] w fun e w' => e = .returned (.bool r) ∧ Below w.heap.size w w' := by
 have hu34 := Try.underlying34
 have HB := za (Below.refl w.heap.size w)
 have H : (if a0_0 = a1_0 then (if a0_1.toList = a1_1.toList then (if a0_2 = a1_2 then (if a0_3 = a1_3 then (if a0_4 = a1_4 then (some true) else (some false)) else (some false)) else (some false)) else (some false)) else (some false)) = some r := h
 clear h
 by_cases c3 : a0_0 = a1_0
 rotate_left
 ·rw [if_neg c3] at H
  have c3b0 : (a0_0 == a1_0) = false := beq_eq_false_iff_ne.mpr c3
  have c3b1 : (a0_0 != a1_0) = true := bne_iff_ne.mpr c3
  obtain rfl := Option.some.inj H
  go_enter Try.func30, Try.ntmps30
  go_wp2_with (first | ((with_reducible refine gate_dst (N := 2) rfl ?_); refine box_event ?hg (N := 2) ?hd (cs := (za5 a0_0 a0_1 a0_2 a0_3 a0_4)) (t := 34) ?hr ?_; (case hd => rfl); (case hg => rfl); (case hr => exact zH83); intro gb315 hg w33 hbox hb; have n_ := zA_ (za (zr zG60 hb)) (zA_ (za (hbox)) (zA_ (zN1 w.heap.size hg (zp zG60)) (zN1 w.heap.size hg (zp zG60)))); clear HB; obtain ⟨HB, BK315, GW315, GE315⟩ := n_; clear hb hbox hg) | ((with_reducible refine gate_dst (N := 3) rfl ?_); refine box_event ?hg (N := 3) ?hd (cs := (za5 a1_0 a1_1 a1_2 a1_3 a1_4)) (t := 34) ?hr ?_; (case hd => rfl); (case hg => rfl); (case hr => exact zH83); intro gb316 hg w34 hbox hb; have n_ := zA_ (za (zq (g := gb315) (o := .cells (za5 a0_0 a0_1 a0_2 a0_3 a0_4) 34 (0, 0)) zG64 hb)) (zA_ (za (zr zG58 hb)) (zA_ (za (hbox)) (zA_ (zN1 w.heap.size hg (zp zG58)) (zA_ (zN1 w.heap.size hg (zp zG58)) (zN2 hg (zv (g := gb315) (o := .cells (za5 a0_0 a0_1 a0_2 a0_3 a0_4) 34 (0, 0)) zG64)))))); clear BK315 HB; obtain ⟨BK315, HB, BK316, GW316, GE316, NB315_316, NB316_315⟩ := n_; clear hb hbox hg; have hnb35 := NB315_316.out; have hnc35 := NB316_315.out; have hcz36_0 : w34.cell? ⟨gb315, 0, none⟩ = some (.int .i64 a0_0) := (q15a BK315.out 0).trans rfl; have hcz36_1 : w34.cell? ⟨gb315, 1, none⟩ = some (.string a0_1) := (q15a BK315.out 1).trans rfl; have hcz36_2 : w34.cell? ⟨gb315, 2, none⟩ = some (.int .i64 a0_2) := (q15a BK315.out 2).trans rfl; have hcz36_3 : w34.cell? ⟨gb315, 3, none⟩ = some (.int .i64 a0_3) := (q15a BK315.out 3).trans rfl; have hcz36_4 : w34.cell? ⟨gb315, 4, none⟩ = some (.int .i64 a0_4) := (q15a BK315.out 4).trans rfl; have hfz36_0 := zc BK315.out 0; have hfz36_1 := zc BK315.out 1; have hfz36_2 := zc BK315.out 2; have hfz36_3 := zc BK315.out 3; have hfz36_4 := zc BK315.out 4; have hcz37_0 : w34.cell? ⟨gb316, 0, none⟩ = some (.int .i64 a1_0) := (q15a BK316.out 0).trans rfl; have hcz37_1 : w34.cell? ⟨gb316, 1, none⟩ = some (.string a1_1) := (q15a BK316.out 1).trans rfl; have hcz37_2 : w34.cell? ⟨gb316, 2, none⟩ = some (.int .i64 a1_2) := (q15a BK316.out 2).trans rfl; have hcz37_3 : w34.cell? ⟨gb316, 3, none⟩ = some (.int .i64 a1_3) := (q15a BK316.out 3).trans rfl; have hcz37_4 : w34.cell? ⟨gb316, 4, none⟩ = some (.int .i64 a1_4) := (q15a BK316.out 4).trans rfl; have hfz37_0 := zc BK316.out 0; have hfz37_1 := zc BK316.out 1; have hfz37_2 := zc BK316.out 2; have hfz37_3 := zc BK316.out 3; have hfz37_4 := zc BK316.out 4))
  go_ret
  exact zH8

 rw [if_pos c3] at H
 have c3b0 : (a0_0 == a1_0) = true := beq_iff_eq.mpr c3
 have c3b1 : (a0_0 != a1_0) = false := bne_eq_false_iff_eq.mpr c3
 clear c3
 by_cases c4 : a0_1.toList = a1_1.toList
 rotate_left
 ·rw [if_neg c4] at H
  have c4b0 : (a0_1.toList == a1_1.toList) = false := beq_eq_false_iff_ne.mpr c4
  have c4b1 : (a0_1.toList != a1_1.toList) = true := bne_iff_ne.mpr c4
  obtain rfl := Option.some.inj H
  go_enter Try.func30, Try.ntmps30
  go_wp2_with (first | ((with_reducible refine gate_dst (N := 2) rfl ?_); refine box_event ?hg (N := 2) ?hd (cs := (za5 a0_0 a0_1 a0_2 a0_3 a0_4)) (t := 34) ?hr ?_; (case hd => rfl); (case hg => rfl); (case hr => exact zH83); intro gb315 hg w28 hbox hb; have n_ := zA_ (za (zr zG60 hb)) (zA_ (za (hbox)) (zA_ (zN1 w.heap.size hg (zp zG60)) (zN1 w.heap.size hg (zp zG60)))); clear HB; obtain ⟨HB, BK315, GW315, GE315⟩ := n_; clear hb hbox hg) | ((with_reducible refine gate_dst (N := 3) rfl ?_); refine box_event ?hg (N := 3) ?hd (cs := (za5 a1_0 a1_1 a1_2 a1_3 a1_4)) (t := 34) ?hr ?_; (case hd => rfl); (case hg => rfl); (case hr => exact zH83); intro gb316 hg w29 hbox hb; have n_ := zA_ (za (zq (g := gb315) (o := .cells (za5 a0_0 a0_1 a0_2 a0_3 a0_4) 34 (0, 0)) zG64 hb)) (zA_ (za (zr zG58 hb)) (zA_ (za (hbox)) (zA_ (zN1 w.heap.size hg (zp zG58)) (zA_ (zN1 w.heap.size hg (zp zG58)) (zN2 hg (zv (g := gb315) (o := .cells (za5 a0_0 a0_1 a0_2 a0_3 a0_4) 34 (0, 0)) zG64)))))); clear BK315 HB; obtain ⟨BK315, HB, BK316, GW316, GE316, NB315_316, NB316_315⟩ := n_; clear hb hbox hg; have hnb30 := NB315_316.out; have hnc30 := NB316_315.out; have hcz31_0 : w29.cell? ⟨gb315, 0, none⟩ = some (.int .i64 a0_0) := (q15a BK315.out 0).trans rfl; have hcz31_1 : w29.cell? ⟨gb315, 1, none⟩ = some (.string a0_1) := (q15a BK315.out 1).trans rfl; have hcz31_2 : w29.cell? ⟨gb315, 2, none⟩ = some (.int .i64 a0_2) := (q15a BK315.out 2).trans rfl; have hcz31_3 : w29.cell? ⟨gb315, 3, none⟩ = some (.int .i64 a0_3) := (q15a BK315.out 3).trans rfl; have hcz31_4 : w29.cell? ⟨gb315, 4, none⟩ = some (.int .i64 a0_4) := (q15a BK315.out 4).trans rfl; have hfz31_0 := zc BK315.out 0; have hfz31_1 := zc BK315.out 1; have hfz31_2 := zc BK315.out 2; have hfz31_3 := zc BK315.out 3; have hfz31_4 := zc BK315.out 4; have hcz32_0 : w29.cell? ⟨gb316, 0, none⟩ = some (.int .i64 a1_0) := (q15a BK316.out 0).trans rfl; have hcz32_1 : w29.cell? ⟨gb316, 1, none⟩ = some (.string a1_1) := (q15a BK316.out 1).trans rfl; have hcz32_2 : w29.cell? ⟨gb316, 2, none⟩ = some (.int .i64 a1_2) := (q15a BK316.out 2).trans rfl; have hcz32_3 : w29.cell? ⟨gb316, 3, none⟩ = some (.int .i64 a1_3) := (q15a BK316.out 3).trans rfl; have hcz32_4 : w29.cell? ⟨gb316, 4, none⟩ = some (.int .i64 a1_4) := (q15a BK316.out 4).trans rfl; have hfz32_0 := zc BK316.out 0; have hfz32_1 := zc BK316.out 1; have hfz32_2 := zc BK316.out 2; have hfz32_3 := zc BK316.out 3; have hfz32_4 := zc BK316.out 4))
  go_ret
  exact zH8
 rw [if_pos c4] at H
 have c4b0 : (a0_1.toList == a1_1.toList) = true := beq_iff_eq.mpr c4
 have c4b1 : (a0_1.toList != a1_1.toList) = false := bne_eq_false_iff_eq.mpr c4
 clear c4
 by_cases c5 : a0_2 = a1_2
 rotate_left
 ·rw [if_neg c5] at H
  have c5b0 : (a0_2 == a1_2) = false := beq_eq_false_iff_ne.mpr c5
  have c5b1 : (a0_2 != a1_2) = true := bne_iff_ne.mpr c5
  obtain rfl := Option.some.inj H
  go_enter Try.func30, Try.ntmps30
  go_wp2_with (first | ((with_reducible refine gate_dst (N := 2) rfl ?_); refine box_event ?hg (N := 2) ?hd (cs := (za5 a0_0 a0_1 a0_2 a0_3 a0_4)) (t := 34) ?hr ?_; (case hd => rfl); (case hg => rfl); (case hr => exact zH83); intro gb315 hg w23 hbox hb; have n_ := zA_ (za (zr zG60 hb)) (zA_ (za (hbox)) (zA_ (zN1 w.heap.size hg (zp zG60)) (zN1 w.heap.size hg (zp zG60)))); clear HB; obtain ⟨HB, BK315, GW315, GE315⟩ := n_; clear hb hbox hg) | ((with_reducible refine gate_dst (N := 3) rfl ?_); refine box_event ?hg (N := 3) ?hd (cs := (za5 a1_0 a1_1 a1_2 a1_3 a1_4)) (t := 34) ?hr ?_; (case hd => rfl); (case hg => rfl); (case hr => exact zH83); intro gb316 hg w24 hbox hb; have n_ := zA_ (za (zq (g := gb315) (o := .cells (za5 a0_0 a0_1 a0_2 a0_3 a0_4) 34 (0, 0)) zG64 hb)) (zA_ (za (zr zG58 hb)) (zA_ (za (hbox)) (zA_ (zN1 w.heap.size hg (zp zG58)) (zA_ (zN1 w.heap.size hg (zp zG58)) (zN2 hg (zv (g := gb315) (o := .cells (za5 a0_0 a0_1 a0_2 a0_3 a0_4) 34 (0, 0)) zG64)))))); clear BK315 HB; obtain ⟨BK315, HB, BK316, GW316, GE316, NB315_316, NB316_315⟩ := n_; clear hb hbox hg; have hnb25 := NB315_316.out; have hnc25 := NB316_315.out; have hcz26_0 : w24.cell? ⟨gb315, 0, none⟩ = some (.int .i64 a0_0) := (q15a BK315.out 0).trans rfl; have hcz26_1 : w24.cell? ⟨gb315, 1, none⟩ = some (.string a0_1) := (q15a BK315.out 1).trans rfl; have hcz26_2 : w24.cell? ⟨gb315, 2, none⟩ = some (.int .i64 a0_2) := (q15a BK315.out 2).trans rfl; have hcz26_3 : w24.cell? ⟨gb315, 3, none⟩ = some (.int .i64 a0_3) := (q15a BK315.out 3).trans rfl; have hcz26_4 : w24.cell? ⟨gb315, 4, none⟩ = some (.int .i64 a0_4) := (q15a BK315.out 4).trans rfl; have hfz26_0 := zc BK315.out 0; have hfz26_1 := zc BK315.out 1; have hfz26_2 := zc BK315.out 2; have hfz26_3 := zc BK315.out 3; have hfz26_4 := zc BK315.out 4; have hcz27_0 : w24.cell? ⟨gb316, 0, none⟩ = some (.int .i64 a1_0) := (q15a BK316.out 0).trans rfl; have hcz27_1 : w24.cell? ⟨gb316, 1, none⟩ = some (.string a1_1) := (q15a BK316.out 1).trans rfl; have hcz27_2 : w24.cell? ⟨gb316, 2, none⟩ = some (.int .i64 a1_2) := (q15a BK316.out 2).trans rfl; have hcz27_3 : w24.cell? ⟨gb316, 3, none⟩ = some (.int .i64 a1_3) := (q15a BK316.out 3).trans rfl; have hcz27_4 : w24.cell? ⟨gb316, 4, none⟩ = some (.int .i64 a1_4) := (q15a BK316.out 4).trans rfl; have hfz27_0 := zc BK316.out 0; have hfz27_1 := zc BK316.out 1; have hfz27_2 := zc BK316.out 2; have hfz27_3 := zc BK316.out 3; have hfz27_4 := zc BK316.out 4))
  go_ret
  exact zH8
 rw [if_pos c5] at H
 have c5b0 : (a0_2 == a1_2) = true := beq_iff_eq.mpr c5
 have c5b1 : (a0_2 != a1_2) = false := bne_eq_false_iff_eq.mpr c5
 clear c5
 by_cases c6 : a0_3 = a1_3
 rotate_left
 ·rw [if_neg c6] at H
  have c6b0 : (a0_3 == a1_3) = false := beq_eq_false_iff_ne.mpr c6
  have c6b1 : (a0_3 != a1_3) = true := bne_iff_ne.mpr c6
  obtain rfl := Option.some.inj H
  go_enter Try.func30, Try.ntmps30
  go_wp2_with (first | ((with_reducible refine gate_dst (N := 2) rfl ?_); refine box_event ?hg (N := 2) ?hd (cs := (za5 a0_0 a0_1 a0_2 a0_3 a0_4)) (t := 34) ?hr ?_; (case hd => rfl); (case hg => rfl); (case hr => exact zH83); intro gb315 hg w18 hbox hb; have n_ := zA_ (za (zr zG60 hb)) (zA_ (za (hbox)) (zA_ (zN1 w.heap.size hg (zp zG60)) (zN1 w.heap.size hg (zp zG60)))); clear HB; obtain ⟨HB, BK315, GW315, GE315⟩ := n_; clear hb hbox hg) | ((with_reducible refine gate_dst (N := 3) rfl ?_); refine box_event ?hg (N := 3) ?hd (cs := (za5 a1_0 a1_1 a1_2 a1_3 a1_4)) (t := 34) ?hr ?_; (case hd => rfl); (case hg => rfl); (case hr => exact zH83); intro gb316 hg w19 hbox hb; have n_ := zA_ (za (zq (g := gb315) (o := .cells (za5 a0_0 a0_1 a0_2 a0_3 a0_4) 34 (0, 0)) zG64 hb)) (zA_ (za (zr zG58 hb)) (zA_ (za (hbox)) (zA_ (zN1 w.heap.size hg (zp zG58)) (zA_ (zN1 w.heap.size hg (zp zG58)) (zN2 hg (zv (g := gb315) (o := .cells (za5 a0_0 a0_1 a0_2 a0_3 a0_4) 34 (0, 0)) zG64)))))); clear BK315 HB; obtain ⟨BK315, HB, BK316, GW316, GE316, NB315_316, NB316_315⟩ := n_; clear hb hbox hg; have hnb20 := NB315_316.out; have hnc20 := NB316_315.out; have hcz21_0 : w19.cell? ⟨gb315, 0, none⟩ = some (.int .i64 a0_0) := (q15a BK315.out 0).trans rfl; have hcz21_1 : w19.cell? ⟨gb315, 1, none⟩ = some (.string a0_1) := (q15a BK315.out 1).trans rfl; have hcz21_2 : w19.cell? ⟨gb315, 2, none⟩ = some (.int .i64 a0_2) := (q15a BK315.out 2).trans rfl; have hcz21_3 : w19.cell? ⟨gb315, 3, none⟩ = some (.int .i64 a0_3) := (q15a BK315.out 3).trans rfl; have hcz21_4 : w19.cell? ⟨gb315, 4, none⟩ = some (.int .i64 a0_4) := (q15a BK315.out 4).trans rfl; have hfz21_0 := zc BK315.out 0; have hfz21_1 := zc BK315.out 1; have hfz21_2 := zc BK315.out 2; have hfz21_3 := zc BK315.out 3; have hfz21_4 := zc BK315.out 4; have hcz22_0 : w19.cell? ⟨gb316, 0, none⟩ = some (.int .i64 a1_0) := (q15a BK316.out 0).trans rfl; have hcz22_1 : w19.cell? ⟨gb316, 1, none⟩ = some (.string a1_1) := (q15a BK316.out 1).trans rfl; have hcz22_2 : w19.cell? ⟨gb316, 2, none⟩ = some (.int .i64 a1_2) := (q15a BK316.out 2).trans rfl; have hcz22_3 : w19.cell? ⟨gb316, 3, none⟩ = some (.int .i64 a1_3) := (q15a BK316.out 3).trans rfl; have hcz22_4 : w19.cell? ⟨gb316, 4, none⟩ = some (.int .i64 a1_4) := (q15a BK316.out 4).trans rfl; have hfz22_0 := zc BK316.out 0; have hfz22_1 := zc BK316.out 1; have hfz22_2 := zc BK316.out 2; have hfz22_3 := zc BK316.out 3; have hfz22_4 := zc BK316.out 4))
  go_ret
  exact zH8
 rw [if_pos c6] at H
 have c6b0 : (a0_3 == a1_3) = true := beq_iff_eq.mpr c6
 have c6b1 : (a0_3 != a1_3) = false := bne_eq_false_iff_eq.mpr c6
 clear c6
 by_cases c7 : a0_4 = a1_4
 rotate_left
 ·rw [if_neg c7] at H
  have c7b0 : (a0_4 == a1_4) = false := beq_eq_false_iff_ne.mpr c7
  have c7b1 : (a0_4 != a1_4) = true := bne_iff_ne.mpr c7
  obtain rfl := Option.some.inj H
  go_enter Try.func30, Try.ntmps30
  go_wp2_with (first | ((with_reducible refine gate_dst (N := 2) rfl ?_); refine box_event ?hg (N := 2) ?hd (cs := (za5 a0_0 a0_1 a0_2 a0_3 a0_4)) (t := 34) ?hr ?_; (case hd => rfl); (case hg => rfl); (case hr => exact zH83); intro gb315 hg w13 hbox hb; have n_ := zA_ (za (zr zG60 hb)) (zA_ (za (hbox)) (zA_ (zN1 w.heap.size hg (zp zG60)) (zN1 w.heap.size hg (zp zG60)))); clear HB; obtain ⟨HB, BK315, GW315, GE315⟩ := n_; clear hb hbox hg) | ((with_reducible refine gate_dst (N := 3) rfl ?_); refine box_event ?hg (N := 3) ?hd (cs := (za5 a1_0 a1_1 a1_2 a1_3 a1_4)) (t := 34) ?hr ?_; (case hd => rfl); (case hg => rfl); (case hr => exact zH83); intro gb316 hg w14 hbox hb; have n_ := zA_ (za (zq (g := gb315) (o := .cells (za5 a0_0 a0_1 a0_2 a0_3 a0_4) 34 (0, 0)) zG64 hb)) (zA_ (za (zr zG58 hb)) (zA_ (za (hbox)) (zA_ (zN1 w.heap.size hg (zp zG58)) (zA_ (zN1 w.heap.size hg (zp zG58)) (zN2 hg (zv (g := gb315) (o := .cells (za5 a0_0 a0_1 a0_2 a0_3 a0_4) 34 (0, 0)) zG64)))))); clear BK315 HB; obtain ⟨BK315, HB, BK316, GW316, GE316, NB315_316, NB316_315⟩ := n_; clear hb hbox hg; have hnb15 := NB315_316.out; have hnc15 := NB316_315.out; have hcz16_0 : w14.cell? ⟨gb315, 0, none⟩ = some (.int .i64 a0_0) := (q15a BK315.out 0).trans rfl; have hcz16_1 : w14.cell? ⟨gb315, 1, none⟩ = some (.string a0_1) := (q15a BK315.out 1).trans rfl; have hcz16_2 : w14.cell? ⟨gb315, 2, none⟩ = some (.int .i64 a0_2) := (q15a BK315.out 2).trans rfl; have hcz16_3 : w14.cell? ⟨gb315, 3, none⟩ = some (.int .i64 a0_3) := (q15a BK315.out 3).trans rfl; have hcz16_4 : w14.cell? ⟨gb315, 4, none⟩ = some (.int .i64 a0_4) := (q15a BK315.out 4).trans rfl; have hfz16_0 := zc BK315.out 0; have hfz16_1 := zc BK315.out 1; have hfz16_2 := zc BK315.out 2; have hfz16_3 := zc BK315.out 3; have hfz16_4 := zc BK315.out 4; have hcz17_0 : w14.cell? ⟨gb316, 0, none⟩ = some (.int .i64 a1_0) := (q15a BK316.out 0).trans rfl; have hcz17_1 : w14.cell? ⟨gb316, 1, none⟩ = some (.string a1_1) := (q15a BK316.out 1).trans rfl; have hcz17_2 : w14.cell? ⟨gb316, 2, none⟩ = some (.int .i64 a1_2) := (q15a BK316.out 2).trans rfl; have hcz17_3 : w14.cell? ⟨gb316, 3, none⟩ = some (.int .i64 a1_3) := (q15a BK316.out 3).trans rfl; have hcz17_4 : w14.cell? ⟨gb316, 4, none⟩ = some (.int .i64 a1_4) := (q15a BK316.out 4).trans rfl; have hfz17_0 := zc BK316.out 0; have hfz17_1 := zc BK316.out 1; have hfz17_2 := zc BK316.out 2; have hfz17_3 := zc BK316.out 3; have hfz17_4 := zc BK316.out 4))
  go_ret
  exact zH8
 rw [if_pos c7] at H
 have c7b0 : (a0_4 == a1_4) = true := beq_iff_eq.mpr c7
 have c7b1 : (a0_4 != a1_4) = false := bne_eq_false_iff_eq.mpr c7
 clear c7
 obtain rfl := Option.some.inj H
 go_enter Try.func30, Try.ntmps30
 go_wp2_with (first | ((with_reducible refine gate_dst (N := 2) rfl ?_); refine box_event ?hg (N := 2) ?hd (cs := (za5 a0_0 a0_1 a0_2 a0_3 a0_4)) (t := 34) ?hr ?_; (case hd => rfl); (case hg => rfl); (case hr => exact zH83); intro gb315 hg w8 hbox hb; have n_ := zA_ (za (zr zG60 hb)) (zA_ (za (hbox)) (zA_ (zN1 w.heap.size hg (zp zG60)) (zN1 w.heap.size hg (zp zG60)))); clear HB; obtain ⟨HB, BK315, GW315, GE315⟩ := n_; clear hb hbox hg) | ((with_reducible refine gate_dst (N := 3) rfl ?_); refine box_event ?hg (N := 3) ?hd (cs := (za5 a1_0 a1_1 a1_2 a1_3 a1_4)) (t := 34) ?hr ?_; (case hd => rfl); (case hg => rfl); (case hr => exact zH83); intro gb316 hg w9 hbox hb; have n_ := zA_ (za (zq (g := gb315) (o := .cells (za5 a0_0 a0_1 a0_2 a0_3 a0_4) 34 (0, 0)) zG64 hb)) (zA_ (za (zr zG58 hb)) (zA_ (za (hbox)) (zA_ (zN1 w.heap.size hg (zp zG58)) (zA_ (zN1 w.heap.size hg (zp zG58)) (zN2 hg (zv (g := gb315) (o := .cells (za5 a0_0 a0_1 a0_2 a0_3 a0_4) 34 (0, 0)) zG64)))))); clear BK315 HB; obtain ⟨BK315, HB, BK316, GW316, GE316, NB315_316, NB316_315⟩ := n_; clear hb hbox hg; have hnb10 := NB315_316.out; have hnc10 := NB316_315.out; have hcz11_0 : w9.cell? ⟨gb315, 0, none⟩ = some (.int .i64 a0_0) := (q15a BK315.out 0).trans rfl; have hcz11_1 : w9.cell? ⟨gb315, 1, none⟩ = some (.string a0_1) := (q15a BK315.out 1).trans rfl; have hcz11_2 : w9.cell? ⟨gb315, 2, none⟩ = some (.int .i64 a0_2) := (q15a BK315.out 2).trans rfl; have hcz11_3 : w9.cell? ⟨gb315, 3, none⟩ = some (.int .i64 a0_3) := (q15a BK315.out 3).trans rfl; have hcz11_4 : w9.cell? ⟨gb315, 4, none⟩ = some (.int .i64 a0_4) := (q15a BK315.out 4).trans rfl; have hfz11_0 := zc BK315.out 0; have hfz11_1 := zc BK315.out 1; have hfz11_2 := zc BK315.out 2; have hfz11_3 := zc BK315.out 3; have hfz11_4 := zc BK315.out 4; have hcz12_0 : w9.cell? ⟨gb316, 0, none⟩ = some (.int .i64 a1_0) := (q15a BK316.out 0).trans rfl; have hcz12_1 : w9.cell? ⟨gb316, 1, none⟩ = some (.string a1_1) := (q15a BK316.out 1).trans rfl; have hcz12_2 : w9.cell? ⟨gb316, 2, none⟩ = some (.int .i64 a1_2) := (q15a BK316.out 2).trans rfl; have hcz12_3 : w9.cell? ⟨gb316, 3, none⟩ = some (.int .i64 a1_3) := (q15a BK316.out 3).trans rfl; have hcz12_4 : w9.cell? ⟨gb316, 4, none⟩ = some (.int .i64 a1_4) := (q15a BK316.out 4).trans rfl; have hfz12_0 := zc BK316.out 0; have hfz12_1 := zc BK316.out 1; have hfz12_2 := zc BK316.out 2; have hfz12_3 := zc BK316.out 3; have hfz12_4 := zc BK316.out 4))
 go_ret
 exact zH8
end Go.Proofs.Ytnkceaibkfbeaaa.E
