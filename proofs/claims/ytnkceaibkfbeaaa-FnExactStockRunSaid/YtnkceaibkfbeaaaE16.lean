-- squeezed
-- made by pp.py (wip/tools) out of the translation; Lean checks it
import Derived.Test.YtnkceaibkfbeaaaE0
import Derived.Test.YtnkceaibkfbeaaaE15
namespace Go.Proofs.Ytnkceaibkfbeaaa.E
open Go.RowKit Go.Proofs.YtnkceaibkfbeaaaW.PrintWords Go.Proofs.YtnkceaibkfbeaaaW.PrintLast Go.Proofs.YtnkceaibkfbeaaaW.PrintMore
attribute [local go_sem] max2_int min2_int max_two min_two max_three min_three max_four min_four   -- for this text's walks alone
set_option linter.unusedVariables false
set_option linter.unusedSimpArgs false

abbrev b16A0 := zM 10 0
abbrev b16A1 := zM 10 1
abbrev b16A2 := zM 10 3
abbrev b16A3 := zM 10 7
abbrev b16A4 := zM 10 23
abbrev b16A5 := zM 10 55
abbrev b16A6 := zM 10 119
abbrev b16A7 := zM 10 127
abbrev b16A8 := zM 10 255
abbrev b16A9 := zM 10 511
abbrev b16A10 := zM 10 1023
/-! ### laws_eqStockActS: function 15 -/
def laws_eqStockActS.l0 : Nat → List (S34) → List (S34) → Int → Option (Bool)
 | 0, _, _, _ => none
 | k + 1, x0, x1, x5 => if x5 < (x0.length : Int) then (if 0 ≤ x5 then (if x5 < (x1.length : Int) then ((laws_eqStockAct.f ((rd_T34 x0 x5).f0) ((rd_T34 x0 x5).f1) ((rd_T34 x0 x5).f2) ((rd_T34 x0 x5).f3) ((rd_T34 x0 x5).f4) ((rd_T34 x1 x5).f0) ((rd_T34 x1 x5).f1) ((rd_T34 x1 x5).f2) ((rd_T34 x1 x5).f3) ((rd_T34 x1 x5).f4)).bind fun t319 => (if t319 = true then (laws_eqStockActS.l0 k x0 x1 (wrap64 (x5 + 1))) else (some false))) else (none)) else (none)) else (some true)
def laws_eqStockActS.f (k : Nat) (l0 : List (S34)) (l1 : List (S34)) : Option (Bool) := if (l0.length : Int) = (l1.length : Int) then (laws_eqStockActS.l0 k l0 l1 0) else (some false)
theorem laws_eqStockActS.mono_l : ∀ k, (∀ y0 y1 y2, LeO (laws_eqStockActS.l0 k y0 y1 y2) (laws_eqStockActS.l0 (k + 1) y0 y1 y2))
 | 0 => fun _ _ _ r h => by simp [laws_eqStockActS.l0] at h
 | k + 1 => by
  have ih0 := laws_eqStockActS.mono_l k
  ·intro y0 y1 y2
   unfold laws_eqStockActS.l0
   repeat' first
   | (with_reducible exact ih0 _ _ _)
   | (with_reducible exact LeO.refl _)
   | (with_reducible exact LeO.none _)
   | (with_reducible refine LeO.ite ?_ ?_)
   | (with_reducible refine LeO.bind ?_ (fun _ => ?_))
   | exact ih0 _ _ _
   | exact LeO.none _
   | refine LeO.ite ?_ ?_
   | refine LeO.bind ?_ (fun _ => ?_)
theorem laws_eqStockActS.mono : ∀ a0 a1 k, LeO (laws_eqStockActS.f k a0 a1) (laws_eqStockActS.f (k + 1) a0 a1) := by
 intro a0 a1 k
 have ih0 := laws_eqStockActS.mono_l k
 unfold laws_eqStockActS.f
 repeat' first
   | (with_reducible exact ih0 _ _ _)
   | (with_reducible exact LeO.refl _)
   | (with_reducible exact LeO.none _)
   | (with_reducible refine LeO.ite ?_ ?_)
   | (with_reducible refine LeO.bind ?_ (fun _ => ?_))
   | exact ih0 _ _ _
   | exact LeO.none _
   | refine LeO.ite ?_ ?_
   | refine LeO.bind ?_ (fun _ => ?_)
def laws_eqStockActS.T6 : Bool × List (List Nat × List Nat) := (true, [([], []), ([], []), ([0, 1], [0, 1]), ([2], [2]), ([], []), ([], []), ([4, 5], [4, 5]), ([6], [6]), ([3, 7], [3, 7]), ([8], [8])])
def laws_eqStockActS.B6 : List Nat := [0, 0, 3, 7, 0, 0, 48, 112, 255, 511]
theorem laws_eqStockActS.tab6 : rtab .any (opsOf Try.f15 6) = laws_eqStockActS.T6 := by kernel_rfl
theorem laws_eqStockActS.bits6 : waitsOk laws_eqStockActS.T6.2 laws_eqStockActS.B6 = true := by kernel_rfl
set_option maxHeartbeats 64000000 in
set_option maxRecDepth 100000 in
theorem laws_eqStockActS.calls (k : Nat) (A0 : Option Addr) (c0 : Nat) (l0 : List (S34)) (A1 : Option Addr) (c1 : Nat) (l1 : List (S34)) (r : Bool) (w : World) (hr0 : Kd.C k34 w A0 l0.length l0) (hc0 : l0.length ≤ c0) (hr1 : Kd.C k34 w A1 l1.length l1) (hc1 : l1.length ≤ c1) (h : laws_eqStockActS.f k l0 l1 = some r) :
  Calls Try.prog 15 #[.slice A0 l0.length c0, .slice A1 l1.length c1] w fun e w' => e = .returned (.bool r) ∧ Below w.heap.size w w' := by
 have hu34 := Try.underlying34
 obtain ⟨HR0, HC0, HR1, HC1, HB⟩ := zD5 hr0 hc0 hr1 hc1 (Below.refl w.heap.size w)
 clear hr0 hc0 hr1 hc1
 have H : (if (l0.length : Int) = (l1.length : Int) then (laws_eqStockActS.l0 k l0 l1 0) else (some false)) = some r := h
 clear h
 by_cases c3 : (l0.length : Int) = (l1.length : Int)
 rotate_left
 ·rw [if_neg c3] at H
  have c3b0 : ((l0.length : Int) == (l1.length : Int)) = false := beq_eq_false_iff_ne.mpr c3
  have c3b1 : ((l0.length : Int) != (l1.length : Int)) = true := bne_iff_ne.mpr c3
  have c3b2 : (l0.length == l1.length) = false := by first | simpa using c3 | (simp at c3 ⊢; omega)
  obtain rfl := Option.some.inj H
  go_enter Try.func15, Try.ntmps15
  go_wp2
  go_ret
  exact zH14

 rw [if_pos c3] at H
 have c3b0 : ((l0.length : Int) == (l1.length : Int)) = true := beq_iff_eq.mpr c3
 have c3b1 : ((l0.length : Int) != (l1.length : Int)) = false := bne_eq_false_iff_eq.mpr c3
 have c3b2 : (l0.length == l1.length) = true := by first | simpa using c3 | (simp at c3 ⊢; omega)
 clear c3
 have H' := za H
 clear H
 go_enter Try.func15, Try.ntmps15
 go_wp2
 go_loopg [5] k (fun kq v5 w' => ∃ (x5_1 : Int), v5 = .int .i64 x5_1 ∧ Aside0 (laws_eqStockActS.l0 kq l0 l1 x5_1 = some r) ∧ Aside0 (kq ≤ k) ∧ Aside0 (Below w.heap.size w w'))
 case atStart => exact ⟨(0), zG82, H', ⟨Nat.le_refl _⟩, ⟨zH60⟩⟩
 case round =>
  clear H'
  try clear c1
  try clear c3
  try clear c3b0
  try clear c3b1
  try clear c3b2
  obtain ⟨x5_1, rfl, HA, HK1, HB⟩ := hrel
  cases gk with
  | zero => exact absurd HA.out (by simp [laws_eqStockActS.l0])
  | succ k1 =>
   have H := HA.out
   clear HA
   simp only [laws_eqStockActS.l0] at H
   by_cases c4 : x5_1 < (l0.length : Int)
   rotate_left
   ·rw [if_neg c4] at H
    have c4b0 := decide_eq_false c4
    clear c4
    obtain rfl := Option.some.inj H
    go_wp2
    go_ret
    exact zH14
   rw [if_pos c4] at H
   have c4b0 := decide_eq_true c4
   clear c4
   by_cases c5 : 0 ≤ x5_1
   rotate_left
   ·rw [if_neg c5] at H
    exact absurd H (by simp)
   rw [if_pos c5] at H
   have c5b0 := decide_eq_true c5
   clear c5
   by_cases c6 : x5_1 < (l1.length : Int)
   rotate_left
   ·rw [if_neg c6] at H
    exact absurd H (by simp)
   rw [if_pos c6] at H
   have c6b0 := decide_eq_true c6
   clear c6
   replace H := Option.bind_eq_some_iff.mp H
   obtain ⟨t319, A70, H⟩ := H
   replace H : (if t319 = true then (laws_eqStockActS.l0 k1 l0 l1 (wrap64 (x5_1 + 1))) else (some false)) = some r := H
   have A7 := za A70
   clear A70
   by_cases c8 : t319 = true
   rotate_left
   ·replace c8 := Bool.eq_false_iff.mpr c8
    subst c8
    have H1 : (some false) = some r := by rw [if_neg (show ¬ (false = true) by decide)] at H; exact H
    clear H
    have H := H1
    clear H1
    obtain rfl := Option.some.inj H
    try go_wp2
    have n0_ := za (zh HB.out)
    clear HB
    have HB := n0_
    clear n0_
    have p317 : 0 ≤ (x5_1 : Int) := zO
    have q317 : x5_1 < (l0.length : Int) := zO
    obtain ⟨ad317, e317, hx317_0, hx317_1, hx317_2, hx317_3, hx317_4⟩ := at_T34 HR0.out x5_1 p317 q317
    have hw317_4 := hx317_4
    have hw317_3 := hx317_3
    have hw317_2 := hx317_2
    have hw317_1 := hx317_1
    have hw317_0 := hx317_0
    cases e317
    replace hx317_0 := (HB.out.cell (zb w _ hx317_0)).trans hx317_0
    replace hx317_1 := (HB.out.cell (zb w _ hx317_1)).trans hx317_1
    replace hx317_2 := (HB.out.cell (zb w _ hx317_2)).trans hx317_2
    replace hx317_3 := (HB.out.cell (zb w _ hx317_3)).trans hx317_3
    replace hx317_4 := (HB.out.cell (zb w _ hx317_4)).trans hx317_4
    replace p317 := eq_true p317
    replace q317 := eq_true q317
    have p318 : 0 ≤ (x5_1 : Int) := zO
    have q318 : x5_1 < (l1.length : Int) := zO
    obtain ⟨ad318, e318, hx318_0, hx318_1, hx318_2, hx318_3, hx318_4⟩ := at_T34 HR1.out x5_1 p318 q318
    have hw318_4 := hx318_4
    have hw318_3 := hx318_3
    have hw318_2 := hx318_2
    have hw318_1 := hx318_1
    have hw318_0 := hx318_0
    cases e318
    replace hx318_0 := (HB.out.cell (zb w _ hx318_0)).trans hx318_0
    replace hx318_1 := (HB.out.cell (zb w _ hx318_1)).trans hx318_1
    replace hx318_2 := (HB.out.cell (zb w _ hx318_2)).trans hx318_2
    replace hx318_3 := (HB.out.cell (zb w _ hx318_3)).trans hx318_3
    replace hx318_4 := (HB.out.cell (zb w _ hx318_4)).trans hx318_4
    replace p318 := eq_true p318
    replace q318 := eq_true q318
    refine start_ (n := 10) (S := fun w' => w'.cell? (ad317.add ((x5_1).toNat * 5)) = some (.int .i64 ((rd_T34 l0 x5_1).f0)) ∧ w'.cell? ⟨(ad317.add ((x5_1).toNat * 5)).block, (ad317.add ((x5_1).toNat * 5)).off + 1, none⟩ = some (.string ((rd_T34 l0 x5_1).f1)) ∧ w'.cell? ⟨(ad317.add ((x5_1).toNat * 5)).block, (ad317.add ((x5_1).toNat * 5)).off + 2, none⟩ = some (.int .i64 ((rd_T34 l0 x5_1).f2)) ∧ w'.cell? ⟨(ad317.add ((x5_1).toNat * 5)).block, (ad317.add ((x5_1).toNat * 5)).off + 3, none⟩ = some (.int .i64 ((rd_T34 l0 x5_1).f3)) ∧ w'.cell? ⟨(ad317.add ((x5_1).toNat * 5)).block, (ad317.add ((x5_1).toNat * 5)).off + 4, none⟩ = some (.int .i64 ((rd_T34 l0 x5_1).f4)) ∧ w'.cell? (ad318.add ((x5_1).toNat * 5)) = some (.int .i64 ((rd_T34 l1 x5_1).f0)) ∧ w'.cell? ⟨(ad318.add ((x5_1).toNat * 5)).block, (ad318.add ((x5_1).toNat * 5)).off + 1, none⟩ = some (.string ((rd_T34 l1 x5_1).f1)) ∧ w'.cell? ⟨(ad318.add ((x5_1).toNat * 5)).block, (ad318.add ((x5_1).toNat * 5)).off + 2, none⟩ = some (.int .i64 ((rd_T34 l1 x5_1).f2)) ∧ w'.cell? ⟨(ad318.add ((x5_1).toNat * 5)).block, (ad318.add ((x5_1).toNat * 5)).off + 3, none⟩ = some (.int .i64 ((rd_T34 l1 x5_1).f3)) ∧ w'.cell? ⟨(ad318.add ((x5_1).toNat * 5)).block, (ad318.add ((x5_1).toNat * 5)).off + 4, none⟩ = some (.int .i64 ((rd_T34 l1 x5_1).f4))) (ds := []) b16A0 zG83 rfl rfl ⟨((HB.out.cell (zb w _ hw317_0)).trans hw317_0), ((HB.out.cell (zb w _ hw317_1)).trans hw317_1), ((HB.out.cell (zb w _ hw317_2)).trans hw317_2), ((HB.out.cell (zb w _ hw317_3)).trans hw317_3), ((HB.out.cell (zb w _ hw317_4)).trans hw317_4), ((HB.out.cell (zb w _ hw318_0)).trans hw318_0), ((HB.out.cell (zb w _ hw318_1)).trans hw318_1), ((HB.out.cell (zb w _ hw318_2)).trans hw318_2), ((HB.out.cell (zb w _ hw318_3)).trans hw318_3), ((HB.out.cell (zb w _ hw318_4)).trans hw318_4)⟩ (fun hHeld => ?_); refine with_tabW laws_eqStockActS.tab6 laws_eqStockActS.bits6 (fun HT_ HW_ => ?_)
    generalize wr.drew = w11 at HB hx317_0 hx317_1 hx317_2 hx317_3 hx317_4 hx318_0 hx318_1 hx318_2 hx318_3 hx318_4 hHeld ⊢
    refine zP 0 17 b16A1 HT_ ?_
    refine zP 1 18 b16A2 HT_ ?_
    refine zP 2 19 b16A3 HT_ ?_
    refine zP 4 21 b16A4 HT_ ?_
    refine zP 5 22 b16A5 HT_ ?_
    refine zP 6 23 b16A6 HT_ ?_
    refine zQ 3 20 b16A7 HT_ HW_ hHeld ?_
    refine zQ 7 24 b16A8 HT_ HW_ hHeld ?_
    refine one_ (i := 8) (N := some 25) b16A9 rfl rfl (one_of HT_.out zG83) zG84 (fun K hK => ?_)
    refine goes_ Try.func30 zG83 rfl #[.agg (za5 ((rd_T34 l0 x5_1).f0) ((rd_T34 l0 x5_1).f1) ((rd_T34 l0 x5_1).f2) ((rd_T34 l0 x5_1).f3) ((rd_T34 l0 x5_1).f4)), .agg (za5 ((rd_T34 l1 x5_1).f0) ((rd_T34 l1 x5_1).f1) ((rd_T34 l1 x5_1).f2) ((rd_T34 l1 x5_1).f3) ((rd_T34 l1 x5_1).f4))] (by rfl) rfl rfl zG54 ?_
    with_reducible refine (laws_eqStockAct.calls ((rd_T34 l0 x5_1).f0) ((rd_T34 l0 x5_1).f1) ((rd_T34 l0 x5_1).f2) ((rd_T34 l0 x5_1).f3) ((rd_T34 l0 x5_1).f4) ((rd_T34 l1 x5_1).f0) ((rd_T34 l1 x5_1).f1) ((rd_T34 l1 x5_1).f2) ((rd_T34 l1 x5_1).f3) ((rd_T34 l1 x5_1).f4) false _ A7.out).mono ?_
    rintro e w12 ⟨rfl, hb⟩
    refine ⟨_, rfl, ?_⟩
    have n0_ := za (zr zG60 hb)
    clear HB
    have HB := n0_
    clear n0_
    (try clear hb)
    (try clear hb2)
    (try clear hk)
    (try clear hi)
    refine hK.out _ _ ⟨((HB.out.cell (zb w _ hw317_0)).trans hw317_0), ((HB.out.cell (zb w _ hw317_1)).trans hw317_1), ((HB.out.cell (zb w _ hw317_2)).trans hw317_2), ((HB.out.cell (zb w _ hw317_3)).trans hw317_3), ((HB.out.cell (zb w _ hw317_4)).trans hw317_4), ((HB.out.cell (zb w _ hw318_0)).trans hw318_0), ((HB.out.cell (zb w _ hw318_1)).trans hw318_1), ((HB.out.cell (zb w _ hw318_2)).trans hw318_2), ((HB.out.cell (zb w _ hw318_3)).trans hw318_3), ((HB.out.cell (zb w _ hw318_4)).trans hw318_4)⟩ (fun hHeld => ?_)
    clear hK K
    refine norm_ (a' := ?_) ?_ ?_
    rotate_left
    ·show Act.put _ (some 25) _ = _
     simp only [Act.put, List.setIfInBounds_toArray, List.set_cons_zero, List.set_cons_succ, i64_w, i32_w]
     rfl
    refine zP 9 26 b16A10 HT_ ?_
    refine done_ (done_of HT_.out zG83) ?_
    try go_wp2
    go_ret
    exact zH14
   subst c8
   have H1 : (laws_eqStockActS.l0 k1 l0 l1 (wrap64 (x5_1 + 1))) = some r := by rw [if_pos rfl] at H; exact H
   clear H
   have H := H1
   clear H1
   have H' := za H
   clear H
   try go_wp2
   have n0_ := za (zh HB.out)
   clear HB
   have HB := n0_
   clear n0_
   have p317 : 0 ≤ (x5_1 : Int) := zO
   have q317 : x5_1 < (l0.length : Int) := zO
   obtain ⟨ad317, e317, hx317_0, hx317_1, hx317_2, hx317_3, hx317_4⟩ := at_T34 HR0.out x5_1 p317 q317
   have hw317_4 := hx317_4
   have hw317_3 := hx317_3
   have hw317_2 := hx317_2
   have hw317_1 := hx317_1
   have hw317_0 := hx317_0
   cases e317
   replace hx317_0 := (HB.out.cell (zb w _ hx317_0)).trans hx317_0
   replace hx317_1 := (HB.out.cell (zb w _ hx317_1)).trans hx317_1
   replace hx317_2 := (HB.out.cell (zb w _ hx317_2)).trans hx317_2
   replace hx317_3 := (HB.out.cell (zb w _ hx317_3)).trans hx317_3
   replace hx317_4 := (HB.out.cell (zb w _ hx317_4)).trans hx317_4
   replace p317 := eq_true p317
   replace q317 := eq_true q317
   have p318 : 0 ≤ (x5_1 : Int) := zO
   have q318 : x5_1 < (l1.length : Int) := zO
   obtain ⟨ad318, e318, hx318_0, hx318_1, hx318_2, hx318_3, hx318_4⟩ := at_T34 HR1.out x5_1 p318 q318
   have hw318_4 := hx318_4
   have hw318_3 := hx318_3
   have hw318_2 := hx318_2
   have hw318_1 := hx318_1
   have hw318_0 := hx318_0
   cases e318
   replace hx318_0 := (HB.out.cell (zb w _ hx318_0)).trans hx318_0
   replace hx318_1 := (HB.out.cell (zb w _ hx318_1)).trans hx318_1
   replace hx318_2 := (HB.out.cell (zb w _ hx318_2)).trans hx318_2
   replace hx318_3 := (HB.out.cell (zb w _ hx318_3)).trans hx318_3
   replace hx318_4 := (HB.out.cell (zb w _ hx318_4)).trans hx318_4
   replace p318 := eq_true p318
   replace q318 := eq_true q318
   refine start_ (n := 10) (S := fun w' => w'.cell? (ad317.add ((x5_1).toNat * 5)) = some (.int .i64 ((rd_T34 l0 x5_1).f0)) ∧ w'.cell? ⟨(ad317.add ((x5_1).toNat * 5)).block, (ad317.add ((x5_1).toNat * 5)).off + 1, none⟩ = some (.string ((rd_T34 l0 x5_1).f1)) ∧ w'.cell? ⟨(ad317.add ((x5_1).toNat * 5)).block, (ad317.add ((x5_1).toNat * 5)).off + 2, none⟩ = some (.int .i64 ((rd_T34 l0 x5_1).f2)) ∧ w'.cell? ⟨(ad317.add ((x5_1).toNat * 5)).block, (ad317.add ((x5_1).toNat * 5)).off + 3, none⟩ = some (.int .i64 ((rd_T34 l0 x5_1).f3)) ∧ w'.cell? ⟨(ad317.add ((x5_1).toNat * 5)).block, (ad317.add ((x5_1).toNat * 5)).off + 4, none⟩ = some (.int .i64 ((rd_T34 l0 x5_1).f4)) ∧ w'.cell? (ad318.add ((x5_1).toNat * 5)) = some (.int .i64 ((rd_T34 l1 x5_1).f0)) ∧ w'.cell? ⟨(ad318.add ((x5_1).toNat * 5)).block, (ad318.add ((x5_1).toNat * 5)).off + 1, none⟩ = some (.string ((rd_T34 l1 x5_1).f1)) ∧ w'.cell? ⟨(ad318.add ((x5_1).toNat * 5)).block, (ad318.add ((x5_1).toNat * 5)).off + 2, none⟩ = some (.int .i64 ((rd_T34 l1 x5_1).f2)) ∧ w'.cell? ⟨(ad318.add ((x5_1).toNat * 5)).block, (ad318.add ((x5_1).toNat * 5)).off + 3, none⟩ = some (.int .i64 ((rd_T34 l1 x5_1).f3)) ∧ w'.cell? ⟨(ad318.add ((x5_1).toNat * 5)).block, (ad318.add ((x5_1).toNat * 5)).off + 4, none⟩ = some (.int .i64 ((rd_T34 l1 x5_1).f4))) (ds := []) b16A0 zG83 rfl rfl ⟨((HB.out.cell (zb w _ hw317_0)).trans hw317_0), ((HB.out.cell (zb w _ hw317_1)).trans hw317_1), ((HB.out.cell (zb w _ hw317_2)).trans hw317_2), ((HB.out.cell (zb w _ hw317_3)).trans hw317_3), ((HB.out.cell (zb w _ hw317_4)).trans hw317_4), ((HB.out.cell (zb w _ hw318_0)).trans hw318_0), ((HB.out.cell (zb w _ hw318_1)).trans hw318_1), ((HB.out.cell (zb w _ hw318_2)).trans hw318_2), ((HB.out.cell (zb w _ hw318_3)).trans hw318_3), ((HB.out.cell (zb w _ hw318_4)).trans hw318_4)⟩ (fun hHeld => ?_); refine with_tabW laws_eqStockActS.tab6 laws_eqStockActS.bits6 (fun HT_ HW_ => ?_)
   generalize wr.drew = w9 at HB hx317_0 hx317_1 hx317_2 hx317_3 hx317_4 hx318_0 hx318_1 hx318_2 hx318_3 hx318_4 hHeld ⊢
   refine zP 0 17 b16A1 HT_ ?_
   refine zP 1 18 b16A2 HT_ ?_
   refine zP 2 19 b16A3 HT_ ?_
   refine zP 4 21 b16A4 HT_ ?_
   refine zP 5 22 b16A5 HT_ ?_
   refine zP 6 23 b16A6 HT_ ?_
   refine zQ 3 20 b16A7 HT_ HW_ hHeld ?_
   refine zQ 7 24 b16A8 HT_ HW_ hHeld ?_
   refine one_ (i := 8) (N := some 25) b16A9 rfl rfl (one_of HT_.out zG83) zG84 (fun K hK => ?_)
   refine goes_ Try.func30 zG83 rfl #[.agg (za5 ((rd_T34 l0 x5_1).f0) ((rd_T34 l0 x5_1).f1) ((rd_T34 l0 x5_1).f2) ((rd_T34 l0 x5_1).f3) ((rd_T34 l0 x5_1).f4)), .agg (za5 ((rd_T34 l1 x5_1).f0) ((rd_T34 l1 x5_1).f1) ((rd_T34 l1 x5_1).f2) ((rd_T34 l1 x5_1).f3) ((rd_T34 l1 x5_1).f4))] (by rfl) rfl rfl zG54 ?_
   with_reducible refine (laws_eqStockAct.calls ((rd_T34 l0 x5_1).f0) ((rd_T34 l0 x5_1).f1) ((rd_T34 l0 x5_1).f2) ((rd_T34 l0 x5_1).f3) ((rd_T34 l0 x5_1).f4) ((rd_T34 l1 x5_1).f0) ((rd_T34 l1 x5_1).f1) ((rd_T34 l1 x5_1).f2) ((rd_T34 l1 x5_1).f3) ((rd_T34 l1 x5_1).f4) true _ A7.out).mono ?_
   rintro e w10 ⟨rfl, hb⟩
   refine ⟨_, rfl, ?_⟩
   have n0_ := za (zr zG60 hb)
   clear HB
   have HB := n0_
   clear n0_
   (try clear hb)
   (try clear hb2)
   (try clear hk)
   (try clear hi)
   refine hK.out _ _ ⟨((HB.out.cell (zb w _ hw317_0)).trans hw317_0), ((HB.out.cell (zb w _ hw317_1)).trans hw317_1), ((HB.out.cell (zb w _ hw317_2)).trans hw317_2), ((HB.out.cell (zb w _ hw317_3)).trans hw317_3), ((HB.out.cell (zb w _ hw317_4)).trans hw317_4), ((HB.out.cell (zb w _ hw318_0)).trans hw318_0), ((HB.out.cell (zb w _ hw318_1)).trans hw318_1), ((HB.out.cell (zb w _ hw318_2)).trans hw318_2), ((HB.out.cell (zb w _ hw318_3)).trans hw318_3), ((HB.out.cell (zb w _ hw318_4)).trans hw318_4)⟩ (fun hHeld => ?_)
   clear hK K
   refine norm_ (a' := ?_) ?_ ?_
   rotate_left
   ·show Act.put _ (some 25) _ = _
    simp only [Act.put, List.setIfInBounds_toArray, List.set_cons_zero, List.set_cons_succ, i64_w, i32_w]
    rfl
   refine zP 9 26 b16A10 HT_ ?_
   refine done_ (done_of HT_.out zG83) ?_
   try go_wp2
   go_roundg k1
   case measure => have := HK1.out; omega
   case rel => exact ⟨(wrap64 (x5_1 + 1)), zG82, H', ⟨zH88⟩, ⟨zH60⟩⟩
/-! ### laws_markText: function 31 -/
def laws_markText.l0 : Nat → Int → ByteArray → Option (ByteArray)
 | 0, _, _ => none
 | k + 1, x0, x3 => if x0 > 0 then ((some (([(wrap64 (48 + (Int.tmod x0 10))) % 256] : List Int) : List Int)).bind fun y320 => (if (strOfNums y320).size + x3.size ≤ 9223372036854775807 then (laws_markText.l0 k (wrap64 (Int.tdiv x0 10)) ((strOfNums y320) ++ x3)) else (none))) else (if 1 + x3.size ≤ 9223372036854775807 then (some ((⟨#[109]⟩ : ByteArray) ++ x3)) else (none))
def laws_markText.f (k : Nat) (a0 : Int) : Option (ByteArray) := if a0 ≤ 0 then (some (⟨#[109, 48]⟩ : ByteArray)) else (laws_markText.l0 k a0 (⟨#[]⟩ : ByteArray))
theorem laws_markText.mono_l : ∀ k, (∀ y0 y1, LeO (laws_markText.l0 k y0 y1) (laws_markText.l0 (k + 1) y0 y1))
 | 0 => fun _ _ r h => by simp [laws_markText.l0] at h
 | k + 1 => by
  have ih0 := laws_markText.mono_l k
  ·intro y0 y1
   unfold laws_markText.l0
   repeat' first
   | (with_reducible exact ih0 _ _)
   | (with_reducible exact LeO.refl _)
   | (with_reducible exact LeO.none _)
   | (with_reducible refine LeO.ite ?_ ?_)
   | (with_reducible refine LeO.bind ?_ (fun _ => ?_))
   | exact ih0 _ _
   | exact LeO.none _
   | refine LeO.ite ?_ ?_
   | refine LeO.bind ?_ (fun _ => ?_)
theorem laws_markText.mono : ∀ a0 k, LeO (laws_markText.f k a0) (laws_markText.f (k + 1) a0) := by
 intro a0 k
 have ih0 := laws_markText.mono_l k
 unfold laws_markText.f
 repeat' first
   | (with_reducible exact ih0 _ _)
   | (with_reducible exact LeO.refl _)
   | (with_reducible exact LeO.none _)
   | (with_reducible refine LeO.ite ?_ ?_)
   | (with_reducible refine LeO.bind ?_ (fun _ => ?_))
   | exact ih0 _ _
   | exact LeO.none _
   | refine LeO.ite ?_ ?_
   | refine LeO.bind ?_ (fun _ => ?_)
set_option maxHeartbeats 64000000 in
set_option maxRecDepth 100000 in
theorem laws_markText.calls (k : Nat) (a0 : Int) (r : ByteArray) (w : World) (h : laws_markText.f k a0 = some r) :
  Calls Try.prog 31 #[.int .i64 a0] w fun e w' => e = .returned (.string r) ∧ Below w.heap.size w w' := by
 have HB := za (Below.refl w.heap.size w)
 have H : (if a0 ≤ 0 then (some (⟨#[109, 48]⟩ : ByteArray)) else (laws_markText.l0 k a0 (⟨#[]⟩ : ByteArray))) = some r := h
 clear h
 by_cases c2 : a0 ≤ 0
 ·rw [if_pos c2] at H
  have c2b0 := decide_eq_true c2
  clear c2
  obtain rfl := Option.some.inj H
  go_enter Try.func31, Try.ntmps31
  go_wp2
  go_ret
  exact zH14
 rw [if_neg c2] at H
 have c2b0 := decide_eq_false c2
 clear c2
 have H' := za H
 clear H
 go_enter Try.func31, Try.ntmps31
 go_wp2
 go_loopg [0, 3] k (fun kq v0 v3 w' => ∃ (x0_1 : Int) (x3_1 : ByteArray), v0 = .int .i64 x0_1 ∧ v3 = .string x3_1 ∧ Aside0 (laws_markText.l0 kq x0_1 x3_1 = some r) ∧ Aside0 (kq ≤ k) ∧ Aside0 (Below w.heap.size w w'))
 case atStart => exact ⟨(a0), ((⟨#[]⟩ : ByteArray)), zG82, zG82, H', ⟨Nat.le_refl _⟩, ⟨zH60⟩⟩
 case round =>
  clear H'
  try clear c2
  try clear c2b0
  obtain ⟨x0_1, x3_1, rfl, rfl, HA, HK1, HB⟩ := hrel
  cases gk with
  | zero => exact absurd HA.out (by simp [laws_markText.l0])
  | succ k1 =>
   have H := HA.out
   clear HA
   simp only [laws_markText.l0] at H
   by_cases c3 : x0_1 > 0
   rotate_left
   ·rw [if_neg c3] at H
    have c3b0 : decide (0 < x0_1) = false := decide_eq_false c3
    clear c3
    by_cases c8 : 1 + x3_1.size ≤ 9223372036854775807
    rotate_left
    ·rw [if_neg c8] at H
     exact absurd H (by simp)

    rw [if_pos c8] at H
    have c8b0 := eq_true c8
    have c8b1 := decide_eq_true c8
    try have c8b2 : (9223372036854775807 < 1 + x3_1.size) = False := eq_false (Nat.not_lt.2 c8)
    obtain rfl := Option.some.inj H
    go_wp2
    go_ret
    exact zH14
   rw [if_pos c3] at H
   have c3b0 : decide (0 < x0_1) = true := decide_eq_true c3
   clear c3
   obtain ⟨y320, hy320⟩ : ∃ y_ : List Int, y_ = (([(wrap64 (48 + (Int.tmod x0_1 10))) % 256] : List Int)) := ⟨_, rfl⟩
   replace H : (if (strOfNums y320).size + x3_1.size ≤ 9223372036854775807 then (laws_markText.l0 k1 (wrap64 (Int.tdiv x0_1 10)) ((strOfNums y320) ++ x3_1)) else (none)) = some r := by first | (rw [hy320]; with_reducible exact H) | (have H2_ := (Option.bind_some _ _).symm.trans H; rw [hy320]; with_reducible exact H2_) | (have H2_ := (Option.bind_some _ _).symm.trans H; with_reducible exact H2_) | with_reducible exact H | (rw [hy320]; exact H) | exact H
   have Ny320 := za hy320
   clear hy320
   by_cases c4 : (strOfNums y320).size + x3_1.size ≤ 9223372036854775807
   rotate_left
   ·rw [if_neg c4] at H
    exact absurd H (by simp)
   rw [if_pos c4] at H
   have c4b0 := eq_true c4
   have c4b1 := decide_eq_true c4
   try have c4b2 : (9223372036854775807 < (strOfNums y320).size + x3_1.size) = False := eq_false (Nat.not_lt.2 c4)
   have H' := za H
   clear H
   go_wp2_with (first | ((with_reducible refine gate_dst (N := 12) rfl ?_); refine Kd.R_lit (Kd.int .u8) _ 5 ?hg (N := 12) ?hd (xs := ([(wrap64 (48 + (Int.tmod x0_1 10))) % 256] : List Int)) (inner := [.int .u8 ((wrap64 (48 + (Int.tmod x0_1 10))) % 256)]) (ok := fun _ => True) (okp := fun _ => True) ?hr ?hp (fun _ hk => hk) trivial (Below.refl _ _) (Nat.le_refl _) (by simp) ?_; (case hd => rfl); (case hg => rfl); (case hr => exact zH83); (case hp => exact (Reps.one (show Kd.M (Kd.int .u8) _ _ _ ((wrap64 (48 + (Int.tmod x0_1 10))) % 256) [.int .u8 ((wrap64 (48 + (Int.tmod x0_1 10))) % 256)] from rfl) (Reps.none _ _))); intro v321 w5 ho6 hb hg_ hnew_; clear hg_ hnew_; (first | rw [← Ny320.out] at ho6 | (simp only [Int.reduceToNat] at ho6; rw [← Ny320.out] at ho6)); have n_ := zA_ (za (zai ho6 (zp zG60))) (za (zr zG60 hb)); clear HB; obtain ⟨HO322, HB⟩ := n_; clear hb ho6; have hcv7 := own_string (P := Try.prog) Try.underlying22 Try.underlying5 Try.underlying9 (Kd.own_of_R HO322.out)))
   go_roundg k1
   case measure => have := HK1.out; omega
   case rel => exact ⟨(wrap64 (Int.tdiv x0_1 10)), ((strOfNums y320) ++ x3_1), zG82, zG82, H', ⟨zH88⟩, ⟨zH60⟩⟩
/-! ### laws_markStockActS: function 16 -/
def laws_markStockActS.l0 : Nat → List (S34) → Int → Int → Option (Int × (List (S34)))
 | 0, _, _, _ => none
 | k + 1, x0, x1, x5 => if x5 < (x0.length : Int) then (if 0 ≤ x5 then ((some (x0.set (x5 : Int).toNat (⟨x1, (rd_T34 x0 x5).f1, (rd_T34 x0 x5).f2, (rd_T34 x0 x5).f3, (rd_T34 x0 x5).f4⟩ : S34) : List (S34))).bind fun y323 => ((laws_markText.f k (wrap64 (x1 + 1))).bind fun t324 => ((some (y323.set (x5 : Int).toNat (⟨(rd_T34 y323 x5).f0, t324, (rd_T34 y323 x5).f2, (rd_T34 y323 x5).f3, (rd_T34 y323 x5).f4⟩ : S34) : List (S34))).bind fun y325 => ((some (y325.set (x5 : Int).toNat (⟨(rd_T34 y325 x5).f0, (rd_T34 y325 x5).f1, wrap64 ((wrap64 (x1 + 1)) + 1), (rd_T34 y325 x5).f3, (rd_T34 y325 x5).f4⟩ : S34) : List (S34))).bind fun y326 => ((some (y326.set (x5 : Int).toNat (⟨(rd_T34 y326 x5).f0, (rd_T34 y326 x5).f1, (rd_T34 y326 x5).f2, wrap64 ((wrap64 ((wrap64 (x1 + 1)) + 1)) + 1), (rd_T34 y326 x5).f4⟩ : S34) : List (S34))).bind fun y327 => (laws_markStockActS.l0 k (y327.set (x5 : Int).toNat (⟨(rd_T34 y327 x5).f0, (rd_T34 y327 x5).f1, (rd_T34 y327 x5).f2, (rd_T34 y327 x5).f3, wrap64 ((wrap64 ((wrap64 ((wrap64 (x1 + 1)) + 1)) + 1)) + 1)⟩ : S34)) (wrap64 ((wrap64 ((wrap64 ((wrap64 ((wrap64 (x1 + 1)) + 1)) + 1)) + 1)) + 1)) (wrap64 (x5 + 1)))))))) else (none)) else (some (x1, x0))
def laws_markStockActS.f (k : Nat) (l0 : List (S34)) (a1 : Int) : Option (Int × (List (S34))) := laws_markStockActS.l0 k l0 a1 0
theorem laws_markStockActS.mono_l : ∀ k, (∀ y0 y1 y2, LeO (laws_markStockActS.l0 k y0 y1 y2) (laws_markStockActS.l0 (k + 1) y0 y1 y2))
 | 0 => fun _ _ _ r h => by simp [laws_markStockActS.l0] at h
 | k + 1 => by
  have ih0 := laws_markStockActS.mono_l k
  ·intro y0 y1 y2
   unfold laws_markStockActS.l0
   repeat' first
   | (with_reducible exact ih0 _ _ _)
   | (with_reducible exact laws_markText.mono _ _)
   | (with_reducible exact LeO.refl _)
   | (with_reducible exact LeO.none _)
   | (with_reducible refine LeO.ite ?_ ?_)
   | (with_reducible refine LeO.bind ?_ (fun _ => ?_))
   | exact ih0 _ _ _
   | exact laws_markText.mono _ _
   | exact LeO.none _
   | refine LeO.ite ?_ ?_
   | refine LeO.bind ?_ (fun _ => ?_)
theorem laws_markStockActS.mono : ∀ a0 a1 k, LeO (laws_markStockActS.f k a0 a1) (laws_markStockActS.f (k + 1) a0 a1) := by
 intro a0 a1 k
 have ih0 := laws_markStockActS.mono_l k
 unfold laws_markStockActS.f
 repeat' first
   | (with_reducible exact ih0 _ _ _)
   | (with_reducible exact laws_markText.mono _ _)
   | (with_reducible exact LeO.refl _)
   | (with_reducible exact LeO.none _)
   | (with_reducible refine LeO.ite ?_ ?_)
   | (with_reducible refine LeO.bind ?_ (fun _ => ?_))
   | exact ih0 _ _ _
   | exact laws_markText.mono _ _
   | exact LeO.none _
   | refine LeO.ite ?_ ?_
   | refine LeO.bind ?_ (fun _ => ?_)
set_option maxHeartbeats 64000000 in
set_option maxRecDepth 100000 in
theorem laws_markStockActS.calls (k : Nat) (P0_ : Nat → Prop) (u9000_ : Value) (l0 : List (S34)) (a1 : Int) (r1 : Int) (r2 : List (S34)) (w0 w : World) (hB : Below w0.heap.size w0 w) (ho0 : Kd.R k34 34 w w0.heap.size P0_ u9000_ l0) (h : laws_markStockActS.f k l0 a1 = some (r1, r2)) :
  Calls Try.prog 16 #[u9000_, .int .i64 a1] w fun e w' => e = .returned (.int .i64 r1) ∧ Kd.R k34 34 w' w0.heap.size (fun k_ => (P0_ k_ ∨ w.heap.size ≤ k_)) u9000_ r2 ∧ Below w0.heap.size w0 w' ∧ Kept w w' (fun k_ => P0_ k_) := by
 obtain ⟨HO0, HK, HW0, HB⟩ := zD4 (show Kd.R k34 34 w w0.heap.size (fun k_ => (P0_ k_ ∨ w.heap.size ≤ k_)) u9000_ l0 from zs ho0 (fun k_ hk => (.inl hk))) (Kept.refl w (fun k_ => P0_ k_)) hB.size hB
 clear hB
 have H : (laws_markStockActS.l0 k l0 a1 0) = some (r1, r2) := h
 clear h
 have H' := za H
 clear H
 go_enter Try.func16, Try.ntmps16
 go_wp2
 go_loopg [1, 5] k (fun kq v1 v5 w' => ∃ (x0_1 : List (S34)) (x1_1 : Int) (x5_1 : Int), v1 = .int .i64 x1_1 ∧ v5 = .int .i64 x5_1 ∧ Aside0 (laws_markStockActS.l0 kq x0_1 x1_1 x5_1 = some (r1, r2)) ∧ Aside0 (kq ≤ k) ∧ Aside0 (Kd.R k34 34 w' w0.heap.size (fun k_ => (P0_ k_ ∨ w.heap.size ≤ k_)) u9000_ x0_1) ∧ Aside0 (Kept w w' (fun k_ => P0_ k_)) ∧ Aside0 (Below w0.heap.size w0 w'))
 case atStart => exact ⟨(l0), (a1), (0), zG82, zG82, H', ⟨Nat.le_refl _⟩, ⟨zH75⟩, ⟨zH46⟩, ⟨zH60⟩⟩
 case round =>
  clear H'
  obtain ⟨x0_1, x1_1, x5_1, rfl, rfl, HA, HK1, HO_0, HK, HB⟩ := hrel
  cases gk with
  | zero => exact absurd HA.out (by simp [laws_markStockActS.l0])
  | succ k1 =>
   have H := HA.out
   clear HA
   simp only [laws_markStockActS.l0] at H
   by_cases c3 : x5_1 < (x0_1.length : Int)
   rotate_left
   ·rw [if_neg c3] at H
    have c3b0 := decide_eq_false c3
    clear c3
    simp only [Option.some.injEq, Prod.mk.injEq] at H
    obtain ⟨rfl, rfl⟩ := H
    obtain ⟨Ao23, co23, eo23⟩ := zx HO_0.out
    subst eo23
    go_wp2
    go_ret
    exact zH2

   rw [if_pos c3] at H
   have c3b0 := decide_eq_true c3
   clear c3
   by_cases c4 : 0 ≤ x5_1
   rotate_left
   ·rw [if_neg c4] at H
    exact absurd H (by simp)
   rw [if_pos c4] at H
   have c4b0 := decide_eq_true c4
   clear c4
   obtain ⟨y323, hy323⟩ : ∃ y_ : List (S34), y_ = (x0_1.set (x5_1 : Int).toNat (⟨x1_1, (rd_T34 x0_1 x5_1).f1, (rd_T34 x0_1 x5_1).f2, (rd_T34 x0_1 x5_1).f3, (rd_T34 x0_1 x5_1).f4⟩ : S34)) := ⟨_, rfl⟩
   replace H : ((laws_markText.f k1 (wrap64 (x1_1 + 1))).bind fun t324 => ((some (y323.set (x5_1 : Int).toNat (⟨(rd_T34 y323 x5_1).f0, t324, (rd_T34 y323 x5_1).f2, (rd_T34 y323 x5_1).f3, (rd_T34 y323 x5_1).f4⟩ : S34) : List (S34))).bind fun y325 => ((some (y325.set (x5_1 : Int).toNat (⟨(rd_T34 y325 x5_1).f0, (rd_T34 y325 x5_1).f1, wrap64 ((wrap64 (x1_1 + 1)) + 1), (rd_T34 y325 x5_1).f3, (rd_T34 y325 x5_1).f4⟩ : S34) : List (S34))).bind fun y326 => ((some (y326.set (x5_1 : Int).toNat (⟨(rd_T34 y326 x5_1).f0, (rd_T34 y326 x5_1).f1, (rd_T34 y326 x5_1).f2, wrap64 ((wrap64 ((wrap64 (x1_1 + 1)) + 1)) + 1), (rd_T34 y326 x5_1).f4⟩ : S34) : List (S34))).bind fun y327 => (laws_markStockActS.l0 k1 (y327.set (x5_1 : Int).toNat (⟨(rd_T34 y327 x5_1).f0, (rd_T34 y327 x5_1).f1, (rd_T34 y327 x5_1).f2, (rd_T34 y327 x5_1).f3, wrap64 ((wrap64 ((wrap64 ((wrap64 (x1_1 + 1)) + 1)) + 1)) + 1)⟩ : S34)) (wrap64 ((wrap64 ((wrap64 ((wrap64 ((wrap64 (x1_1 + 1)) + 1)) + 1)) + 1)) + 1)) (wrap64 (x5_1 + 1))))))) = some (r1, r2) := by first | (rw [hy323]; with_reducible exact H) | (have H2_ := (Option.bind_some _ _).symm.trans H; rw [hy323]; with_reducible exact H2_) | (have H2_ := (Option.bind_some _ _).symm.trans H; with_reducible exact H2_) | with_reducible exact H | (rw [hy323]; exact H) | exact H
   have Ny323 := za hy323
   clear hy323
   replace H := Option.bind_eq_some_iff.mp H
   obtain ⟨t324, A60, H⟩ := H
   replace H : ((some (y323.set (x5_1 : Int).toNat (⟨(rd_T34 y323 x5_1).f0, t324, (rd_T34 y323 x5_1).f2, (rd_T34 y323 x5_1).f3, (rd_T34 y323 x5_1).f4⟩ : S34) : List (S34))).bind fun y325 => ((some (y325.set (x5_1 : Int).toNat (⟨(rd_T34 y325 x5_1).f0, (rd_T34 y325 x5_1).f1, wrap64 ((wrap64 (x1_1 + 1)) + 1), (rd_T34 y325 x5_1).f3, (rd_T34 y325 x5_1).f4⟩ : S34) : List (S34))).bind fun y326 => ((some (y326.set (x5_1 : Int).toNat (⟨(rd_T34 y326 x5_1).f0, (rd_T34 y326 x5_1).f1, (rd_T34 y326 x5_1).f2, wrap64 ((wrap64 ((wrap64 (x1_1 + 1)) + 1)) + 1), (rd_T34 y326 x5_1).f4⟩ : S34) : List (S34))).bind fun y327 => (laws_markStockActS.l0 k1 (y327.set (x5_1 : Int).toNat (⟨(rd_T34 y327 x5_1).f0, (rd_T34 y327 x5_1).f1, (rd_T34 y327 x5_1).f2, (rd_T34 y327 x5_1).f3, wrap64 ((wrap64 ((wrap64 ((wrap64 (x1_1 + 1)) + 1)) + 1)) + 1)⟩ : S34)) (wrap64 ((wrap64 ((wrap64 ((wrap64 ((wrap64 (x1_1 + 1)) + 1)) + 1)) + 1)) + 1)) (wrap64 (x5_1 + 1)))))) = some (r1, r2) := H
   have A6 := za A60
   clear A60
   obtain ⟨y325, hy325⟩ : ∃ y_ : List (S34), y_ = (y323.set (x5_1 : Int).toNat (⟨(rd_T34 y323 x5_1).f0, t324, (rd_T34 y323 x5_1).f2, (rd_T34 y323 x5_1).f3, (rd_T34 y323 x5_1).f4⟩ : S34)) := ⟨_, rfl⟩
   replace H : ((some (y325.set (x5_1 : Int).toNat (⟨(rd_T34 y325 x5_1).f0, (rd_T34 y325 x5_1).f1, wrap64 ((wrap64 (x1_1 + 1)) + 1), (rd_T34 y325 x5_1).f3, (rd_T34 y325 x5_1).f4⟩ : S34) : List (S34))).bind fun y326 => ((some (y326.set (x5_1 : Int).toNat (⟨(rd_T34 y326 x5_1).f0, (rd_T34 y326 x5_1).f1, (rd_T34 y326 x5_1).f2, wrap64 ((wrap64 ((wrap64 (x1_1 + 1)) + 1)) + 1), (rd_T34 y326 x5_1).f4⟩ : S34) : List (S34))).bind fun y327 => (laws_markStockActS.l0 k1 (y327.set (x5_1 : Int).toNat (⟨(rd_T34 y327 x5_1).f0, (rd_T34 y327 x5_1).f1, (rd_T34 y327 x5_1).f2, (rd_T34 y327 x5_1).f3, wrap64 ((wrap64 ((wrap64 ((wrap64 (x1_1 + 1)) + 1)) + 1)) + 1)⟩ : S34)) (wrap64 ((wrap64 ((wrap64 ((wrap64 ((wrap64 (x1_1 + 1)) + 1)) + 1)) + 1)) + 1)) (wrap64 (x5_1 + 1))))) = some (r1, r2) := by first | (rw [hy325]; with_reducible exact H) | (have H2_ := (Option.bind_some _ _).symm.trans H; rw [hy325]; with_reducible exact H2_) | (have H2_ := (Option.bind_some _ _).symm.trans H; with_reducible exact H2_) | with_reducible exact H | (rw [hy325]; exact H) | exact H
   have Ny325 := za hy325
   clear hy325
   obtain ⟨y326, hy326⟩ : ∃ y_ : List (S34), y_ = (y325.set (x5_1 : Int).toNat (⟨(rd_T34 y325 x5_1).f0, (rd_T34 y325 x5_1).f1, wrap64 ((wrap64 (x1_1 + 1)) + 1), (rd_T34 y325 x5_1).f3, (rd_T34 y325 x5_1).f4⟩ : S34)) := ⟨_, rfl⟩
   replace H : ((some (y326.set (x5_1 : Int).toNat (⟨(rd_T34 y326 x5_1).f0, (rd_T34 y326 x5_1).f1, (rd_T34 y326 x5_1).f2, wrap64 ((wrap64 ((wrap64 (x1_1 + 1)) + 1)) + 1), (rd_T34 y326 x5_1).f4⟩ : S34) : List (S34))).bind fun y327 => (laws_markStockActS.l0 k1 (y327.set (x5_1 : Int).toNat (⟨(rd_T34 y327 x5_1).f0, (rd_T34 y327 x5_1).f1, (rd_T34 y327 x5_1).f2, (rd_T34 y327 x5_1).f3, wrap64 ((wrap64 ((wrap64 ((wrap64 (x1_1 + 1)) + 1)) + 1)) + 1)⟩ : S34)) (wrap64 ((wrap64 ((wrap64 ((wrap64 ((wrap64 (x1_1 + 1)) + 1)) + 1)) + 1)) + 1)) (wrap64 (x5_1 + 1)))) = some (r1, r2) := by first | (rw [hy326]; with_reducible exact H) | (have H2_ := (Option.bind_some _ _).symm.trans H; rw [hy326]; with_reducible exact H2_) | (have H2_ := (Option.bind_some _ _).symm.trans H; with_reducible exact H2_) | with_reducible exact H | (rw [hy326]; exact H) | exact H
   have Ny326 := za hy326
   clear hy326
   obtain ⟨y327, hy327⟩ : ∃ y_ : List (S34), y_ = (y326.set (x5_1 : Int).toNat (⟨(rd_T34 y326 x5_1).f0, (rd_T34 y326 x5_1).f1, (rd_T34 y326 x5_1).f2, wrap64 ((wrap64 ((wrap64 (x1_1 + 1)) + 1)) + 1), (rd_T34 y326 x5_1).f4⟩ : S34)) := ⟨_, rfl⟩
   replace H : (laws_markStockActS.l0 k1 (y327.set (x5_1 : Int).toNat (⟨(rd_T34 y327 x5_1).f0, (rd_T34 y327 x5_1).f1, (rd_T34 y327 x5_1).f2, (rd_T34 y327 x5_1).f3, wrap64 ((wrap64 ((wrap64 ((wrap64 (x1_1 + 1)) + 1)) + 1)) + 1)⟩ : S34)) (wrap64 ((wrap64 ((wrap64 ((wrap64 ((wrap64 (x1_1 + 1)) + 1)) + 1)) + 1)) + 1)) (wrap64 (x5_1 + 1))) = some (r1, r2) := by first | (rw [hy327]; with_reducible exact H) | (have H2_ := (Option.bind_some _ _).symm.trans H; rw [hy327]; with_reducible exact H2_) | (have H2_ := (Option.bind_some _ _).symm.trans H; with_reducible exact H2_) | with_reducible exact H | (rw [hy327]; exact H) | exact H
   have Ny327 := za hy327
   clear hy327
   obtain ⟨y328, hy328⟩ : ∃ y_ : List (S34), y_ = (y327.set (x5_1 : Int).toNat (⟨(rd_T34 y327 x5_1).f0, (rd_T34 y327 x5_1).f1, (rd_T34 y327 x5_1).f2, (rd_T34 y327 x5_1).f3, wrap64 ((wrap64 ((wrap64 ((wrap64 (x1_1 + 1)) + 1)) + 1)) + 1)⟩ : S34)) := ⟨_, rfl⟩
   replace H : (laws_markStockActS.l0 k1 y328 (wrap64 ((wrap64 ((wrap64 ((wrap64 ((wrap64 (x1_1 + 1)) + 1)) + 1)) + 1)) + 1)) (wrap64 (x5_1 + 1))) = some (r1, r2) := by first | (rw [hy328]; with_reducible exact H) | (have H2_ := (Option.bind_some _ _).symm.trans H; rw [hy328]; with_reducible exact H2_) | (have H2_ := (Option.bind_some _ _).symm.trans H; with_reducible exact H2_) | with_reducible exact H | (rw [hy328]; exact H) | exact H
   have Ny328 := za hy328
   clear hy328
   have H' := za H
   clear H
   obtain ⟨Ao11, co11, eo11⟩ := zx HO_0.out
   subst eo11
   have p5 : 0 ≤ (x5_1 : Int) := zO
   have q5 : (x5_1 : Int) < ((x0_1.length : Int) : Int) := zO
   obtain ⟨go5, co5, eo5, gb5, gl5, cl5, HG5⟩ := zam HO_0.out (by omega)
   (first | cases eo5 | (injection eo5 with ea_ en_ ec_; (first | subst ea_ | (injection ea_ with ea_; subst ea_)); subst ec_; clear en_))
   obtain ⟨GB5, GG5, HMgo5⟩ := zD3 gb5 HG5 (show (P0_ go5 ∨ w.heap.size ≤ go5) from (HO_0.out.1 _ rfl))
   clear gb5 gl5 HG5
   obtain ⟨ce5, hcl5, hM5, hcc5, hfr5⟩ := zag HO_0.out z34 (x5_1 : Int) p5 q5
   obtain rfl := k34_openM hM5
   have hx5_0 : wr.cell? ⟨go5, (x5_1 : Int).toNat * 5, none⟩ = some (.int .i64 ((rd_T34 x0_1 x5_1).f0)) := hcc5 0 _ rfl
   have hx5_1 : wr.cell? ⟨go5, (x5_1 : Int).toNat * 5 + 1, none⟩ = some (.string ((rd_T34 x0_1 x5_1).f1)) := hcc5 1 _ rfl
   have hx5_2 : wr.cell? ⟨go5, (x5_1 : Int).toNat * 5 + 2, none⟩ = some (.int .i64 ((rd_T34 x0_1 x5_1).f2)) := hcc5 2 _ rfl
   have hx5_3 : wr.cell? ⟨go5, (x5_1 : Int).toNat * 5 + 3, none⟩ = some (.int .i64 ((rd_T34 x0_1 x5_1).f3)) := hcc5 3 _ rfl
   have hx5_4 : wr.cell? ⟨go5, (x5_1 : Int).toNat * 5 + 4, none⟩ = some (.int .i64 ((rd_T34 x0_1 x5_1).f4)) := hcc5 4 _ rfl
   have hf5_0 : wr.frozen? ⟨go5, (x5_1 : Int).toNat * 5, none⟩ = false := hfr5 0
   have hf5_1 : wr.frozen? ⟨go5, (x5_1 : Int).toNat * 5 + 1, none⟩ = false := hfr5 1
   have hf5_2 : wr.frozen? ⟨go5, (x5_1 : Int).toNat * 5 + 2, none⟩ = false := hfr5 2
   have hf5_3 : wr.frozen? ⟨go5, (x5_1 : Int).toNat * 5 + 3, none⟩ = false := hfr5 3
   have hf5_4 : wr.frozen? ⟨go5, (x5_1 : Int).toNat * 5 + 4, none⟩ = false := hfr5 4
   clear hcl5 hcc5 hfr5 hM5
   replace p5 := eq_true p5
   replace q5 := eq_true q5
   have HX12 := za (show Kd.R k34 34 wr w0.heap.size (fun k_ => (P0_ k_ ∨ w.heap.size ≤ k_)) (.slice (some ⟨go5, 0, none⟩) x0_1.length co11) x0_1 from zK179)
   obtain ⟨ce12, hcl12, hM12, hcc12, hfr12⟩ := zag HX12.out z34 (x5_1 : Int) zO (by have h_ : (x5_1 : Int) < ((x0_1.length : Int) : Int) := zO; first | exact h_ | (have e_ := (Kd.R_reads' HO_0.out).1; omega) | simpa using h_)
   obtain rfl := k34_openM hM12
   have HP12 := zal HX12.out (x5_1 : Int) zO (by have h_ : (x5_1 : Int) < ((x0_1.length : Int) : Int) := zO; first | exact h_ | (have e_ := (Kd.R_reads' HO_0.out).1; omega) | simpa using h_) (seg := [.int .i64 x1_1]) (j := 0) hcl12 hcc12 (show 1 ≤ 5 from by decide) (x' := (⟨x1_1, (rd_T34 x0_1 x5_1).f1, (rd_T34 x0_1 x5_1).f2, (rd_T34 x0_1 x5_1).f3, (rd_T34 x0_1 x5_1).f4⟩ : S34)) (k34_mkM _ _ _ (⟨x1_1, (rd_T34 x0_1 x5_1).f1, (rd_T34 x0_1 x5_1).f2, (rd_T34 x0_1 x5_1).f3, (rd_T34 x0_1 x5_1).f4⟩ : S34) ) (fun _ hk => hk)
   have hx12_0 := hcc12 0 _ rfl
   (try simp only [show (k34).sz = 5 from rfl, Nat.mul_one, Nat.add_zero] at hx12_0)
   have hf12_0 := hfr12 0
   (try simp only [show (k34).sz = 5 from rfl, Nat.mul_one, Nat.add_zero] at hf12_0)
   clear hcl12 hcc12 hfr12 hM12
   go_wp2_with (first | ((with_reducible refine gate_store (t := 3) (p := 16) rfl ?_); refine store_event (t := 3) (p := 16) (v := ?vo_w13) (w1 := (wr.setCell ⟨go5, (x5_1 : Int).toNat * 5, none⟩ (.int .i64 x1_1))) ?hg ?ho ?hn ?hr ?_; (case ho => rfl); (case hg => rfl); (case hn => rfl); (case hr => exact zH83); intro w13 hw; have hg : wr.grownBy w13 (some go5) := (by rw [hw]; exact HP12.2); have hp_ : Kd.R k34 34 w13 w0.heap.size (fun k_ => (P0_ k_ ∨ w.heap.size ≤ k_)) (.slice (some ⟨go5, 0, none⟩) x0_1.length co11) y323 := (by rw [hw, Ny323.out]; exact HP12.1); clear HP12; have n_ := zA_ (za (hp_)) (zA_ (za ((by rw [hw]; exact zj (HB.out) GB5.out : Below w0.heap.size w0 w13))) (za (zah (S := (fun k_ => P0_ k_)) hg zG59 (fun k_ e_ => (HO_0.out.1 k_ e_))))); clear HO_0 HB HK; obtain ⟨HO_0, HB, HK⟩ := n_; clear hg hw hp_) | ((with_reducible refine gate_callee (f := 31) rfl ?_); refine goesL_ (some 22) rfl rfl Try.func31 zG83 rfl #[.int .i64 (wrap64 (x1_1 + 1))] rfl zG54 ?_; (with_reducible refine (laws_markText.calls k1 (wrap64 (x1_1 + 1)) t324 _ A6.out).mono ?_); rintro e w14 ⟨rfl, hb⟩; refine ⟨_, rfl, ?_⟩; have n_ := zA_ (za (zo zK179 hb)) (zA_ (za (Kept.below (S := (fun k_ => P0_ k_)) zG59 hb)) (za (zr zG60 hb))); clear HO_0 HK HB; obtain ⟨HO_0, HK, HB⟩ := n_; (try clear hb); (try clear hk); have p7 : 0 ≤ (x5_1 : Int) := zO; have q7 : (x5_1 : Int) < ((x0_1.length : Int) : Int) := zO; obtain ⟨ce7, hcl7, hM7, hcc7, hfr7⟩ := zag HO_0.out z34 (x5_1 : Int) p7 q7; obtain rfl := k34_openM hM7; have hx7_0 : w14.cell? ⟨go5, (x5_1 : Int).toNat * 5, none⟩ = some (.int .i64 ((rd_T34 y323 x5_1).f0)) := hcc7 0 _ rfl; have hx7_1 : w14.cell? ⟨go5, (x5_1 : Int).toNat * 5 + 1, none⟩ = some (.string ((rd_T34 y323 x5_1).f1)) := hcc7 1 _ rfl; have hx7_2 : w14.cell? ⟨go5, (x5_1 : Int).toNat * 5 + 2, none⟩ = some (.int .i64 ((rd_T34 y323 x5_1).f2)) := hcc7 2 _ rfl; have hx7_3 : w14.cell? ⟨go5, (x5_1 : Int).toNat * 5 + 3, none⟩ = some (.int .i64 ((rd_T34 y323 x5_1).f3)) := hcc7 3 _ rfl; have hx7_4 : w14.cell? ⟨go5, (x5_1 : Int).toNat * 5 + 4, none⟩ = some (.int .i64 ((rd_T34 y323 x5_1).f4)) := hcc7 4 _ rfl; have hf7_0 : w14.frozen? ⟨go5, (x5_1 : Int).toNat * 5, none⟩ = false := hfr7 0; have hf7_1 : w14.frozen? ⟨go5, (x5_1 : Int).toNat * 5 + 1, none⟩ = false := hfr7 1; have hf7_2 : w14.frozen? ⟨go5, (x5_1 : Int).toNat * 5 + 2, none⟩ = false := hfr7 2; have hf7_3 : w14.frozen? ⟨go5, (x5_1 : Int).toNat * 5 + 3, none⟩ = false := hfr7 3; have hf7_4 : w14.frozen? ⟨go5, (x5_1 : Int).toNat * 5 + 4, none⟩ = false := hfr7 4; clear hcl7 hcc7 hfr7 hM7; replace p7 := eq_true p7; replace q7 := eq_true q7; have HX15 := za (show Kd.R k34 34 w14 w0.heap.size (fun k_ => (P0_ k_ ∨ w.heap.size ≤ k_)) (.slice (some ⟨go5, 0, none⟩) x0_1.length co11) y323 from zK179); obtain ⟨ce15, hcl15, hM15, hcc15, hfr15⟩ := zag HX15.out z34 (x5_1 : Int) zO (by have h_ : (x5_1 : Int) < ((x0_1.length : Int) : Int) := zO; first | exact h_ | (have e_ := (Kd.R_reads' HO_0.out).1; omega) | simpa using h_); obtain rfl := k34_openM hM15; have HP15 := zal HX15.out (x5_1 : Int) zO (by have h_ : (x5_1 : Int) < ((x0_1.length : Int) : Int) := zO; first | exact h_ | (have e_ := (Kd.R_reads' HO_0.out).1; omega) | simpa using h_) (seg := [.string t324]) (j := 1) hcl15 hcc15 (show 2 ≤ 5 from by decide) (x' := (⟨(rd_T34 y323 x5_1).f0, t324, (rd_T34 y323 x5_1).f2, (rd_T34 y323 x5_1).f3, (rd_T34 y323 x5_1).f4⟩ : S34)) (k34_mkM _ _ _ (⟨(rd_T34 y323 x5_1).f0, t324, (rd_T34 y323 x5_1).f2, (rd_T34 y323 x5_1).f3, (rd_T34 y323 x5_1).f4⟩ : S34) ) (fun _ hk => hk); have hx15_1 := hcc15 1 _ rfl; (try simp only [show (k34).sz = 5 from rfl, Nat.mul_one, Nat.add_zero] at hx15_1); have hf15_1 := hfr15 1; (try simp only [show (k34).sz = 5 from rfl, Nat.mul_one, Nat.add_zero] at hf15_1); clear hcl15 hcc15 hfr15 hM15) | ((with_reducible refine gate_store (t := 9) (p := 24) rfl ?_); refine store_event (t := 9) (p := 24) (v := ?vo_w16) (w1 := (w14.setCell ⟨go5, (x5_1 : Int).toNat * 5 + 1, none⟩ (.string t324))) ?hg ?ho ?hn ?hr ?_; (case ho => rfl); (case hg => rfl); (case hn => rfl); (case hr => exact zH83); intro w16 hw; have hg : w14.grownBy w16 (some go5) := (by rw [hw]; exact HP15.2); have hp_ : Kd.R k34 34 w16 w0.heap.size (fun k_ => (P0_ k_ ∨ w.heap.size ≤ k_)) (.slice (some ⟨go5, 0, none⟩) x0_1.length co11) y325 := (by rw [hw, Ny325.out]; exact HP15.1); clear HP15; have n_ := zA_ (za (hp_)) (zA_ (za ((by rw [hw]; exact zj (HB.out) GB5.out : Below w0.heap.size w0 w16))) (za (zah (S := (fun k_ => P0_ k_)) hg zG59 (fun k_ e_ => (HO_0.out.1 k_ e_))))); clear HO_0 HB HK; obtain ⟨HO_0, HB, HK⟩ := n_; clear hg hw hp_; have p8 : 0 ≤ (x5_1 : Int) := zO; have q8 : (x5_1 : Int) < ((x0_1.length : Int) : Int) := zO; obtain ⟨ce8, hcl8, hM8, hcc8, hfr8⟩ := zag HO_0.out z34 (x5_1 : Int) p8 q8; obtain rfl := k34_openM hM8; have hx8_0 : w16.cell? ⟨go5, (x5_1 : Int).toNat * 5, none⟩ = some (.int .i64 ((rd_T34 y325 x5_1).f0)) := hcc8 0 _ rfl; have hx8_1 : w16.cell? ⟨go5, (x5_1 : Int).toNat * 5 + 1, none⟩ = some (.string ((rd_T34 y325 x5_1).f1)) := hcc8 1 _ rfl; have hx8_2 : w16.cell? ⟨go5, (x5_1 : Int).toNat * 5 + 2, none⟩ = some (.int .i64 ((rd_T34 y325 x5_1).f2)) := hcc8 2 _ rfl; have hx8_3 : w16.cell? ⟨go5, (x5_1 : Int).toNat * 5 + 3, none⟩ = some (.int .i64 ((rd_T34 y325 x5_1).f3)) := hcc8 3 _ rfl; have hx8_4 : w16.cell? ⟨go5, (x5_1 : Int).toNat * 5 + 4, none⟩ = some (.int .i64 ((rd_T34 y325 x5_1).f4)) := hcc8 4 _ rfl; have hf8_0 : w16.frozen? ⟨go5, (x5_1 : Int).toNat * 5, none⟩ = false := hfr8 0; have hf8_1 : w16.frozen? ⟨go5, (x5_1 : Int).toNat * 5 + 1, none⟩ = false := hfr8 1; have hf8_2 : w16.frozen? ⟨go5, (x5_1 : Int).toNat * 5 + 2, none⟩ = false := hfr8 2; have hf8_3 : w16.frozen? ⟨go5, (x5_1 : Int).toNat * 5 + 3, none⟩ = false := hfr8 3; have hf8_4 : w16.frozen? ⟨go5, (x5_1 : Int).toNat * 5 + 4, none⟩ = false := hfr8 4; clear hcl8 hcc8 hfr8 hM8; replace p8 := eq_true p8; replace q8 := eq_true q8; have HX17 := za (show Kd.R k34 34 w16 w0.heap.size (fun k_ => (P0_ k_ ∨ w.heap.size ≤ k_)) (.slice (some ⟨go5, 0, none⟩) x0_1.length co11) y325 from zK179); obtain ⟨ce17, hcl17, hM17, hcc17, hfr17⟩ := zag HX17.out z34 (x5_1 : Int) zO (by have h_ : (x5_1 : Int) < ((x0_1.length : Int) : Int) := zO; first | exact h_ | (have e_ := (Kd.R_reads' HO_0.out).1; omega) | simpa using h_); obtain rfl := k34_openM hM17; have HP17 := zal HX17.out (x5_1 : Int) zO (by have h_ : (x5_1 : Int) < ((x0_1.length : Int) : Int) := zO; first | exact h_ | (have e_ := (Kd.R_reads' HO_0.out).1; omega) | simpa using h_) (seg := [.int .i64 (wrap64 ((wrap64 (x1_1 + 1)) + 1))]) (j := 2) hcl17 hcc17 (show 3 ≤ 5 from by decide) (x' := (⟨(rd_T34 y325 x5_1).f0, (rd_T34 y325 x5_1).f1, wrap64 ((wrap64 (x1_1 + 1)) + 1), (rd_T34 y325 x5_1).f3, (rd_T34 y325 x5_1).f4⟩ : S34)) (k34_mkM _ _ _ (⟨(rd_T34 y325 x5_1).f0, (rd_T34 y325 x5_1).f1, wrap64 ((wrap64 (x1_1 + 1)) + 1), (rd_T34 y325 x5_1).f3, (rd_T34 y325 x5_1).f4⟩ : S34) ) (fun _ hk => hk); have hx17_2 := hcc17 2 _ rfl; (try simp only [show (k34).sz = 5 from rfl, Nat.mul_one, Nat.add_zero] at hx17_2); have hf17_2 := hfr17 2; (try simp only [show (k34).sz = 5 from rfl, Nat.mul_one, Nat.add_zero] at hf17_2); clear hcl17 hcc17 hfr17 hM17) | ((with_reducible refine gate_store (t := 3) (p := 31) rfl ?_); refine store_event (t := 3) (p := 31) (v := ?vo_w18) (w1 := (w16.setCell ⟨go5, (x5_1 : Int).toNat * 5 + 2, none⟩ (.int .i64 (wrap64 ((wrap64 (x1_1 + 1)) + 1))))) ?hg ?ho ?hn ?hr ?_; (case ho => rfl); (case hg => rfl); (case hn => rfl); (case hr => exact zH83); intro w18 hw; have hg : w16.grownBy w18 (some go5) := (by rw [hw]; exact HP17.2); have hp_ : Kd.R k34 34 w18 w0.heap.size (fun k_ => (P0_ k_ ∨ w.heap.size ≤ k_)) (.slice (some ⟨go5, 0, none⟩) x0_1.length co11) y326 := (by rw [hw, Ny326.out]; exact HP17.1); clear HP17; have n_ := zA_ (za (hp_)) (zA_ (za ((by rw [hw]; exact zj (HB.out) GB5.out : Below w0.heap.size w0 w18))) (za (zah (S := (fun k_ => P0_ k_)) hg zG59 (fun k_ e_ => (HO_0.out.1 k_ e_))))); clear HO_0 HB HK; obtain ⟨HO_0, HB, HK⟩ := n_; clear hg hw hp_; have p9 : 0 ≤ (x5_1 : Int) := zO; have q9 : (x5_1 : Int) < ((x0_1.length : Int) : Int) := zO; obtain ⟨ce9, hcl9, hM9, hcc9, hfr9⟩ := zag HO_0.out z34 (x5_1 : Int) p9 q9; obtain rfl := k34_openM hM9; have hx9_0 : w18.cell? ⟨go5, (x5_1 : Int).toNat * 5, none⟩ = some (.int .i64 ((rd_T34 y326 x5_1).f0)) := hcc9 0 _ rfl; have hx9_1 : w18.cell? ⟨go5, (x5_1 : Int).toNat * 5 + 1, none⟩ = some (.string ((rd_T34 y326 x5_1).f1)) := hcc9 1 _ rfl; have hx9_2 : w18.cell? ⟨go5, (x5_1 : Int).toNat * 5 + 2, none⟩ = some (.int .i64 ((rd_T34 y326 x5_1).f2)) := hcc9 2 _ rfl; have hx9_3 : w18.cell? ⟨go5, (x5_1 : Int).toNat * 5 + 3, none⟩ = some (.int .i64 ((rd_T34 y326 x5_1).f3)) := hcc9 3 _ rfl; have hx9_4 : w18.cell? ⟨go5, (x5_1 : Int).toNat * 5 + 4, none⟩ = some (.int .i64 ((rd_T34 y326 x5_1).f4)) := hcc9 4 _ rfl; have hf9_0 : w18.frozen? ⟨go5, (x5_1 : Int).toNat * 5, none⟩ = false := hfr9 0; have hf9_1 : w18.frozen? ⟨go5, (x5_1 : Int).toNat * 5 + 1, none⟩ = false := hfr9 1; have hf9_2 : w18.frozen? ⟨go5, (x5_1 : Int).toNat * 5 + 2, none⟩ = false := hfr9 2; have hf9_3 : w18.frozen? ⟨go5, (x5_1 : Int).toNat * 5 + 3, none⟩ = false := hfr9 3; have hf9_4 : w18.frozen? ⟨go5, (x5_1 : Int).toNat * 5 + 4, none⟩ = false := hfr9 4; clear hcl9 hcc9 hfr9 hM9; replace p9 := eq_true p9; replace q9 := eq_true q9; have HX19 := za (show Kd.R k34 34 w18 w0.heap.size (fun k_ => (P0_ k_ ∨ w.heap.size ≤ k_)) (.slice (some ⟨go5, 0, none⟩) x0_1.length co11) y326 from zK179); obtain ⟨ce19, hcl19, hM19, hcc19, hfr19⟩ := zag HX19.out z34 (x5_1 : Int) zO (by have h_ : (x5_1 : Int) < ((x0_1.length : Int) : Int) := zO; first | exact h_ | (have e_ := (Kd.R_reads' HO_0.out).1; omega) | simpa using h_); obtain rfl := k34_openM hM19; have HP19 := zal HX19.out (x5_1 : Int) zO (by have h_ : (x5_1 : Int) < ((x0_1.length : Int) : Int) := zO; first | exact h_ | (have e_ := (Kd.R_reads' HO_0.out).1; omega) | simpa using h_) (seg := [.int .i64 (wrap64 ((wrap64 ((wrap64 (x1_1 + 1)) + 1)) + 1))]) (j := 3) hcl19 hcc19 (show 4 ≤ 5 from by decide) (x' := (⟨(rd_T34 y326 x5_1).f0, (rd_T34 y326 x5_1).f1, (rd_T34 y326 x5_1).f2, wrap64 ((wrap64 ((wrap64 (x1_1 + 1)) + 1)) + 1), (rd_T34 y326 x5_1).f4⟩ : S34)) (k34_mkM _ _ _ (⟨(rd_T34 y326 x5_1).f0, (rd_T34 y326 x5_1).f1, (rd_T34 y326 x5_1).f2, wrap64 ((wrap64 ((wrap64 (x1_1 + 1)) + 1)) + 1), (rd_T34 y326 x5_1).f4⟩ : S34) ) (fun _ hk => hk); have hx19_3 := hcc19 3 _ rfl; (try simp only [show (k34).sz = 5 from rfl, Nat.mul_one, Nat.add_zero] at hx19_3); have hf19_3 := hfr19 3; (try simp only [show (k34).sz = 5 from rfl, Nat.mul_one, Nat.add_zero] at hf19_3); clear hcl19 hcc19 hfr19 hM19) | ((with_reducible refine gate_store (t := 3) (p := 38) rfl ?_); refine store_event (t := 3) (p := 38) (v := ?vo_w20) (w1 := (w18.setCell ⟨go5, (x5_1 : Int).toNat * 5 + 3, none⟩ (.int .i64 (wrap64 ((wrap64 ((wrap64 (x1_1 + 1)) + 1)) + 1))))) ?hg ?ho ?hn ?hr ?_; (case ho => rfl); (case hg => rfl); (case hn => rfl); (case hr => exact zH83); intro w20 hw; have hg : w18.grownBy w20 (some go5) := (by rw [hw]; exact HP19.2); have hp_ : Kd.R k34 34 w20 w0.heap.size (fun k_ => (P0_ k_ ∨ w.heap.size ≤ k_)) (.slice (some ⟨go5, 0, none⟩) x0_1.length co11) y327 := (by rw [hw, Ny327.out]; exact HP19.1); clear HP19; have n_ := zA_ (za (hp_)) (zA_ (za ((by rw [hw]; exact zj (HB.out) GB5.out : Below w0.heap.size w0 w20))) (za (zah (S := (fun k_ => P0_ k_)) hg zG59 (fun k_ e_ => (HO_0.out.1 k_ e_))))); clear HO_0 HB HK; obtain ⟨HO_0, HB, HK⟩ := n_; clear hg hw hp_; have p10 : 0 ≤ (x5_1 : Int) := zO; have q10 : (x5_1 : Int) < ((x0_1.length : Int) : Int) := zO; obtain ⟨ce10, hcl10, hM10, hcc10, hfr10⟩ := zag HO_0.out z34 (x5_1 : Int) p10 q10; obtain rfl := k34_openM hM10; have hx10_0 : w20.cell? ⟨go5, (x5_1 : Int).toNat * 5, none⟩ = some (.int .i64 ((rd_T34 y327 x5_1).f0)) := hcc10 0 _ rfl; have hx10_1 : w20.cell? ⟨go5, (x5_1 : Int).toNat * 5 + 1, none⟩ = some (.string ((rd_T34 y327 x5_1).f1)) := hcc10 1 _ rfl; have hx10_2 : w20.cell? ⟨go5, (x5_1 : Int).toNat * 5 + 2, none⟩ = some (.int .i64 ((rd_T34 y327 x5_1).f2)) := hcc10 2 _ rfl; have hx10_3 : w20.cell? ⟨go5, (x5_1 : Int).toNat * 5 + 3, none⟩ = some (.int .i64 ((rd_T34 y327 x5_1).f3)) := hcc10 3 _ rfl; have hx10_4 : w20.cell? ⟨go5, (x5_1 : Int).toNat * 5 + 4, none⟩ = some (.int .i64 ((rd_T34 y327 x5_1).f4)) := hcc10 4 _ rfl; have hf10_0 : w20.frozen? ⟨go5, (x5_1 : Int).toNat * 5, none⟩ = false := hfr10 0; have hf10_1 : w20.frozen? ⟨go5, (x5_1 : Int).toNat * 5 + 1, none⟩ = false := hfr10 1; have hf10_2 : w20.frozen? ⟨go5, (x5_1 : Int).toNat * 5 + 2, none⟩ = false := hfr10 2; have hf10_3 : w20.frozen? ⟨go5, (x5_1 : Int).toNat * 5 + 3, none⟩ = false := hfr10 3; have hf10_4 : w20.frozen? ⟨go5, (x5_1 : Int).toNat * 5 + 4, none⟩ = false := hfr10 4; clear hcl10 hcc10 hfr10 hM10; replace p10 := eq_true p10; replace q10 := eq_true q10; have HX21 := za (show Kd.R k34 34 w20 w0.heap.size (fun k_ => (P0_ k_ ∨ w.heap.size ≤ k_)) (.slice (some ⟨go5, 0, none⟩) x0_1.length co11) y327 from zK179); obtain ⟨ce21, hcl21, hM21, hcc21, hfr21⟩ := zag HX21.out z34 (x5_1 : Int) zO (by have h_ : (x5_1 : Int) < ((x0_1.length : Int) : Int) := zO; first | exact h_ | (have e_ := (Kd.R_reads' HO_0.out).1; omega) | simpa using h_); obtain rfl := k34_openM hM21; have HP21 := zal HX21.out (x5_1 : Int) zO (by have h_ : (x5_1 : Int) < ((x0_1.length : Int) : Int) := zO; first | exact h_ | (have e_ := (Kd.R_reads' HO_0.out).1; omega) | simpa using h_) (seg := [.int .i64 (wrap64 ((wrap64 ((wrap64 ((wrap64 (x1_1 + 1)) + 1)) + 1)) + 1))]) (j := 4) hcl21 hcc21 (show 5 ≤ 5 from by decide) (x' := (⟨(rd_T34 y327 x5_1).f0, (rd_T34 y327 x5_1).f1, (rd_T34 y327 x5_1).f2, (rd_T34 y327 x5_1).f3, wrap64 ((wrap64 ((wrap64 ((wrap64 (x1_1 + 1)) + 1)) + 1)) + 1)⟩ : S34)) (k34_mkM _ _ _ (⟨(rd_T34 y327 x5_1).f0, (rd_T34 y327 x5_1).f1, (rd_T34 y327 x5_1).f2, (rd_T34 y327 x5_1).f3, wrap64 ((wrap64 ((wrap64 ((wrap64 (x1_1 + 1)) + 1)) + 1)) + 1)⟩ : S34) ) (fun _ hk => hk); have hx21_4 := hcc21 4 _ rfl; (try simp only [show (k34).sz = 5 from rfl, Nat.mul_one, Nat.add_zero] at hx21_4); have hf21_4 := hfr21 4; (try simp only [show (k34).sz = 5 from rfl, Nat.mul_one, Nat.add_zero] at hf21_4); clear hcl21 hcc21 hfr21 hM21) | ((with_reducible refine gate_store (t := 3) (p := 45) rfl ?_); refine store_event (t := 3) (p := 45) (v := ?vo_w22) (w1 := (w20.setCell ⟨go5, (x5_1 : Int).toNat * 5 + 4, none⟩ (.int .i64 (wrap64 ((wrap64 ((wrap64 ((wrap64 (x1_1 + 1)) + 1)) + 1)) + 1))))) ?hg ?ho ?hn ?hr ?_; (case ho => rfl); (case hg => rfl); (case hn => rfl); (case hr => exact zH83); intro w22 hw; have hg : w20.grownBy w22 (some go5) := (by rw [hw]; exact HP21.2); have hp_ : Kd.R k34 34 w22 w0.heap.size (fun k_ => (P0_ k_ ∨ w.heap.size ≤ k_)) (.slice (some ⟨go5, 0, none⟩) x0_1.length co11) y328 := (by rw [hw, Ny328.out]; exact HP21.1); clear HP21; have n_ := zA_ (za (hp_)) (zA_ (za ((by rw [hw]; exact zj (HB.out) GB5.out : Below w0.heap.size w0 w22))) (za (zah (S := (fun k_ => P0_ k_)) hg zG59 (fun k_ e_ => (HO_0.out.1 k_ e_))))); clear HO_0 HB HK; obtain ⟨HO_0, HB, HK⟩ := n_; clear hg hw hp_))
   go_roundg k1
   case measure => have := HK1.out; omega
   case rel => exact ⟨(y328), (wrap64 ((wrap64 ((wrap64 ((wrap64 ((wrap64 (x1_1 + 1)) + 1)) + 1)) + 1)) + 1)), (wrap64 (x5_1 + 1)), zG82, zG82, H', ⟨zH88⟩, ⟨zH74⟩, ⟨zH46⟩, ⟨zH60⟩⟩
/-! ### laws_markStockObsS: function 17 -/
def laws_markStockObsS.l0 : Nat → List (S36) → Int → Int → Option (Int × (List (S36)))
 | 0, _, _, _ => none
 | k + 1, x0, x1, x5 => if x5 < (x0.length : Int) then (if 0 ≤ x5 then ((some (x0.set (x5 : Int).toNat (⟨x1, (rd_T36 x0 x5).f1⟩ : S36) : List (S36))).bind fun y329 => (laws_markStockObsS.l0 k (y329.set (x5 : Int).toNat (⟨(rd_T36 y329 x5).f0, wrap64 (x1 + 1)⟩ : S36)) (wrap64 ((wrap64 (x1 + 1)) + 1)) (wrap64 (x5 + 1)))) else (none)) else (some (x1, x0))
def laws_markStockObsS.f (k : Nat) (l0 : List (S36)) (a1 : Int) : Option (Int × (List (S36))) := laws_markStockObsS.l0 k l0 a1 0
theorem laws_markStockObsS.mono_l : ∀ k, (∀ y0 y1 y2, LeO (laws_markStockObsS.l0 k y0 y1 y2) (laws_markStockObsS.l0 (k + 1) y0 y1 y2))
 | 0 => fun _ _ _ r h => by simp [laws_markStockObsS.l0] at h
 | k + 1 => by
  have ih0 := laws_markStockObsS.mono_l k
  ·intro y0 y1 y2
   unfold laws_markStockObsS.l0
   repeat' first
   | (with_reducible exact ih0 _ _ _)
   | (with_reducible exact LeO.refl _)
   | (with_reducible exact LeO.none _)
   | (with_reducible refine LeO.ite ?_ ?_)
   | (with_reducible refine LeO.bind ?_ (fun _ => ?_))
   | exact ih0 _ _ _
   | exact LeO.none _
   | refine LeO.ite ?_ ?_
   | refine LeO.bind ?_ (fun _ => ?_)
theorem laws_markStockObsS.mono : ∀ a0 a1 k, LeO (laws_markStockObsS.f k a0 a1) (laws_markStockObsS.f (k + 1) a0 a1) := by
 intro a0 a1 k
 have ih0 := laws_markStockObsS.mono_l k
 unfold laws_markStockObsS.f
 repeat' first
   | (with_reducible exact ih0 _ _ _)
   | (with_reducible exact LeO.refl _)
   | (with_reducible exact LeO.none _)
   | (with_reducible refine LeO.ite ?_ ?_)
   | (with_reducible refine LeO.bind ?_ (fun _ => ?_))
   | exact ih0 _ _ _
   | exact LeO.none _
   | refine LeO.ite ?_ ?_
   | refine LeO.bind ?_ (fun _ => ?_)
set_option maxHeartbeats 64000000 in
set_option maxRecDepth 100000 in
theorem laws_markStockObsS.calls (k : Nat) (P0_ : Nat → Prop) (u9000_ : Value) (l0 : List (S36)) (a1 : Int) (r1 : Int) (r2 : List (S36)) (w0 w : World) (hB : Below w0.heap.size w0 w) (ho0 : Kd.R k36 36 w w0.heap.size P0_ u9000_ l0) (h : laws_markStockObsS.f k l0 a1 = some (r1, r2)) :
  Calls Try.prog 17 #[u9000_, .int .i64 a1] w fun e w' => e = .returned (.int .i64 r1) ∧ Kd.R k36 36 w' w0.heap.size (fun k_ => (P0_ k_ ∨ w.heap.size ≤ k_)) u9000_ r2 ∧ Below w0.heap.size w0 w' ∧ Kept w w' (fun k_ => P0_ k_) := by
 obtain ⟨HO0, HK, HW0, HB⟩ := zD4 (show Kd.R k36 36 w w0.heap.size (fun k_ => (P0_ k_ ∨ w.heap.size ≤ k_)) u9000_ l0 from zs ho0 (fun k_ hk => (.inl hk))) (Kept.refl w (fun k_ => P0_ k_)) hB.size hB
 clear hB
 have H : (laws_markStockObsS.l0 k l0 a1 0) = some (r1, r2) := h
 clear h
 have H' := za H
 clear H
 go_enter Try.func17, Try.ntmps17
 go_wp2
 go_loopg [1, 5] k (fun kq v1 v5 w' => ∃ (x0_1 : List (S36)) (x1_1 : Int) (x5_1 : Int), v1 = .int .i64 x1_1 ∧ v5 = .int .i64 x5_1 ∧ Aside0 (laws_markStockObsS.l0 kq x0_1 x1_1 x5_1 = some (r1, r2)) ∧ Aside0 (kq ≤ k) ∧ Aside0 (Kd.R k36 36 w' w0.heap.size (fun k_ => (P0_ k_ ∨ w.heap.size ≤ k_)) u9000_ x0_1) ∧ Aside0 (Kept w w' (fun k_ => P0_ k_)) ∧ Aside0 (Below w0.heap.size w0 w'))
 case atStart => exact ⟨(l0), (a1), (0), zG82, zG82, H', ⟨Nat.le_refl _⟩, ⟨zH75⟩, ⟨zH46⟩, ⟨zH60⟩⟩
 case round =>
  clear H'
  obtain ⟨x0_1, x1_1, x5_1, rfl, rfl, HA, HK1, HO_0, HK, HB⟩ := hrel
  cases gk with
  | zero => exact absurd HA.out (by simp [laws_markStockObsS.l0])
  | succ k1 =>
   have H := HA.out
   clear HA
   simp only [laws_markStockObsS.l0] at H
   by_cases c3 : x5_1 < (x0_1.length : Int)
   rotate_left
   ·rw [if_neg c3] at H
    have c3b0 := decide_eq_false c3
    clear c3
    simp only [Option.some.injEq, Prod.mk.injEq] at H
    obtain ⟨rfl, rfl⟩ := H
    obtain ⟨Ao12, co12, eo12⟩ := zx HO_0.out
    subst eo12
    go_wp2
    go_ret
    exact zH2

   rw [if_pos c3] at H
   have c3b0 := decide_eq_true c3
   clear c3
   by_cases c4 : 0 ≤ x5_1
   rotate_left
   ·rw [if_neg c4] at H
    exact absurd H (by simp)
   rw [if_pos c4] at H
   have c4b0 := decide_eq_true c4
   clear c4
   obtain ⟨y329, hy329⟩ : ∃ y_ : List (S36), y_ = (x0_1.set (x5_1 : Int).toNat (⟨x1_1, (rd_T36 x0_1 x5_1).f1⟩ : S36)) := ⟨_, rfl⟩
   replace H : (laws_markStockObsS.l0 k1 (y329.set (x5_1 : Int).toNat (⟨(rd_T36 y329 x5_1).f0, wrap64 (x1_1 + 1)⟩ : S36)) (wrap64 ((wrap64 (x1_1 + 1)) + 1)) (wrap64 (x5_1 + 1))) = some (r1, r2) := by first | (rw [hy329]; with_reducible exact H) | (have H2_ := (Option.bind_some _ _).symm.trans H; rw [hy329]; with_reducible exact H2_) | (have H2_ := (Option.bind_some _ _).symm.trans H; with_reducible exact H2_) | with_reducible exact H | (rw [hy329]; exact H) | exact H
   have Ny329 := za hy329
   clear hy329
   obtain ⟨y330, hy330⟩ : ∃ y_ : List (S36), y_ = (y329.set (x5_1 : Int).toNat (⟨(rd_T36 y329 x5_1).f0, wrap64 (x1_1 + 1)⟩ : S36)) := ⟨_, rfl⟩
   replace H : (laws_markStockObsS.l0 k1 y330 (wrap64 ((wrap64 (x1_1 + 1)) + 1)) (wrap64 (x5_1 + 1))) = some (r1, r2) := by first | (rw [hy330]; with_reducible exact H) | (have H2_ := (Option.bind_some _ _).symm.trans H; rw [hy330]; with_reducible exact H2_) | (have H2_ := (Option.bind_some _ _).symm.trans H; with_reducible exact H2_) | with_reducible exact H | (rw [hy330]; exact H) | exact H
   have Ny330 := za hy330
   clear hy330
   have H' := za H
   clear H
   obtain ⟨Ao7, co7, eo7⟩ := zx HO_0.out
   subst eo7
   have p5 : 0 ≤ (x5_1 : Int) := zO
   have q5 : (x5_1 : Int) < ((x0_1.length : Int) : Int) := zO
   obtain ⟨go5, co5, eo5, gb5, gl5, cl5, HG5⟩ := zam HO_0.out (by omega)
   (first | cases eo5 | (injection eo5 with ea_ en_ ec_; (first | subst ea_ | (injection ea_ with ea_; subst ea_)); subst ec_; clear en_))
   obtain ⟨GB5, GG5, HMgo5⟩ := zD3 gb5 HG5 (show (P0_ go5 ∨ w.heap.size ≤ go5) from (HO_0.out.1 _ rfl))
   clear gb5 gl5 HG5
   obtain ⟨ce5, hcl5, hM5, hcc5, hfr5⟩ := zag HO_0.out z36 (x5_1 : Int) p5 q5
   obtain rfl := k36_openM hM5
   have hx5_0 : wr.cell? ⟨go5, (x5_1 : Int).toNat * 2, none⟩ = some (.int .i64 ((rd_T36 x0_1 x5_1).f0)) := hcc5 0 _ rfl
   have hx5_1 : wr.cell? ⟨go5, (x5_1 : Int).toNat * 2 + 1, none⟩ = some (.int .i64 ((rd_T36 x0_1 x5_1).f1)) := hcc5 1 _ rfl
   have hf5_0 : wr.frozen? ⟨go5, (x5_1 : Int).toNat * 2, none⟩ = false := hfr5 0
   have hf5_1 : wr.frozen? ⟨go5, (x5_1 : Int).toNat * 2 + 1, none⟩ = false := hfr5 1
   clear hcl5 hcc5 hfr5 hM5
   replace p5 := eq_true p5
   replace q5 := eq_true q5
   have HX8 := za (show Kd.R k36 36 wr w0.heap.size (fun k_ => (P0_ k_ ∨ w.heap.size ≤ k_)) (.slice (some ⟨go5, 0, none⟩) x0_1.length co7) x0_1 from zK179)
   obtain ⟨ce8, hcl8, hM8, hcc8, hfr8⟩ := zag HX8.out z36 (x5_1 : Int) zO (by have h_ : (x5_1 : Int) < ((x0_1.length : Int) : Int) := zO; first | exact h_ | (have e_ := (Kd.R_reads' HO_0.out).1; omega) | simpa using h_)
   obtain rfl := k36_openM hM8
   have HP8 := zal HX8.out (x5_1 : Int) zO (by have h_ : (x5_1 : Int) < ((x0_1.length : Int) : Int) := zO; first | exact h_ | (have e_ := (Kd.R_reads' HO_0.out).1; omega) | simpa using h_) (seg := [.int .i64 x1_1]) (j := 0) hcl8 hcc8 (show 1 ≤ 2 from by decide) (x' := (⟨x1_1, (rd_T36 x0_1 x5_1).f1⟩ : S36)) (k36_mkM _ _ _ (⟨x1_1, (rd_T36 x0_1 x5_1).f1⟩ : S36) ) (fun _ hk => hk)
   have hx8_0 := hcc8 0 _ rfl
   (try simp only [show (k36).sz = 2 from rfl, Nat.mul_one, Nat.add_zero] at hx8_0)
   have hf8_0 := hfr8 0
   (try simp only [show (k36).sz = 2 from rfl, Nat.mul_one, Nat.add_zero] at hf8_0)
   clear hcl8 hcc8 hfr8 hM8
   go_wp2_with (first | ((with_reducible refine gate_store (t := 3) (p := 16) rfl ?_); refine store_event (t := 3) (p := 16) (v := ?vo_w9) (w1 := (wr.setCell ⟨go5, (x5_1 : Int).toNat * 2, none⟩ (.int .i64 x1_1))) ?hg ?ho ?hn ?hr ?_; (case ho => rfl); (case hg => rfl); (case hn => rfl); (case hr => exact zH83); intro w9 hw; have hg : wr.grownBy w9 (some go5) := (by rw [hw]; exact HP8.2); have hp_ : Kd.R k36 36 w9 w0.heap.size (fun k_ => (P0_ k_ ∨ w.heap.size ≤ k_)) (.slice (some ⟨go5, 0, none⟩) x0_1.length co7) y329 := (by rw [hw, Ny329.out]; exact HP8.1); clear HP8; have n_ := zA_ (za (hp_)) (zA_ (za ((by rw [hw]; exact zj (HB.out) GB5.out : Below w0.heap.size w0 w9))) (za (zah (S := (fun k_ => P0_ k_)) hg zG59 (fun k_ e_ => (HO_0.out.1 k_ e_))))); clear HO_0 HB HK; obtain ⟨HO_0, HB, HK⟩ := n_; clear hg hw hp_; have p6 : 0 ≤ (x5_1 : Int) := zO; have q6 : (x5_1 : Int) < ((x0_1.length : Int) : Int) := zO; obtain ⟨ce6, hcl6, hM6, hcc6, hfr6⟩ := zag HO_0.out z36 (x5_1 : Int) p6 q6; obtain rfl := k36_openM hM6; have hx6_0 : w9.cell? ⟨go5, (x5_1 : Int).toNat * 2, none⟩ = some (.int .i64 ((rd_T36 y329 x5_1).f0)) := hcc6 0 _ rfl; have hx6_1 : w9.cell? ⟨go5, (x5_1 : Int).toNat * 2 + 1, none⟩ = some (.int .i64 ((rd_T36 y329 x5_1).f1)) := hcc6 1 _ rfl; have hf6_0 : w9.frozen? ⟨go5, (x5_1 : Int).toNat * 2, none⟩ = false := hfr6 0; have hf6_1 : w9.frozen? ⟨go5, (x5_1 : Int).toNat * 2 + 1, none⟩ = false := hfr6 1; clear hcl6 hcc6 hfr6 hM6; replace p6 := eq_true p6; replace q6 := eq_true q6; have HX10 := za (show Kd.R k36 36 w9 w0.heap.size (fun k_ => (P0_ k_ ∨ w.heap.size ≤ k_)) (.slice (some ⟨go5, 0, none⟩) x0_1.length co7) y329 from zK179); obtain ⟨ce10, hcl10, hM10, hcc10, hfr10⟩ := zag HX10.out z36 (x5_1 : Int) zO (by have h_ : (x5_1 : Int) < ((x0_1.length : Int) : Int) := zO; first | exact h_ | (have e_ := (Kd.R_reads' HO_0.out).1; omega) | simpa using h_); obtain rfl := k36_openM hM10; have HP10 := zal HX10.out (x5_1 : Int) zO (by have h_ : (x5_1 : Int) < ((x0_1.length : Int) : Int) := zO; first | exact h_ | (have e_ := (Kd.R_reads' HO_0.out).1; omega) | simpa using h_) (seg := [.int .i64 (wrap64 (x1_1 + 1))]) (j := 1) hcl10 hcc10 (show 2 ≤ 2 from by decide) (x' := (⟨(rd_T36 y329 x5_1).f0, wrap64 (x1_1 + 1)⟩ : S36)) (k36_mkM _ _ _ (⟨(rd_T36 y329 x5_1).f0, wrap64 (x1_1 + 1)⟩ : S36) ) (fun _ hk => hk); have hx10_1 := hcc10 1 _ rfl; (try simp only [show (k36).sz = 2 from rfl, Nat.mul_one, Nat.add_zero] at hx10_1); have hf10_1 := hfr10 1; (try simp only [show (k36).sz = 2 from rfl, Nat.mul_one, Nat.add_zero] at hf10_1); clear hcl10 hcc10 hfr10 hM10) | ((with_reducible refine gate_store (t := 3) (p := 23) rfl ?_); refine store_event (t := 3) (p := 23) (v := ?vo_w11) (w1 := (w9.setCell ⟨go5, (x5_1 : Int).toNat * 2 + 1, none⟩ (.int .i64 (wrap64 (x1_1 + 1))))) ?hg ?ho ?hn ?hr ?_; (case ho => rfl); (case hg => rfl); (case hn => rfl); (case hr => exact zH83); intro w11 hw; have hg : w9.grownBy w11 (some go5) := (by rw [hw]; exact HP10.2); have hp_ : Kd.R k36 36 w11 w0.heap.size (fun k_ => (P0_ k_ ∨ w.heap.size ≤ k_)) (.slice (some ⟨go5, 0, none⟩) x0_1.length co7) y330 := (by rw [hw, Ny330.out]; exact HP10.1); clear HP10; have n_ := zA_ (za (hp_)) (zA_ (za ((by rw [hw]; exact zj (HB.out) GB5.out : Below w0.heap.size w0 w11))) (za (zah (S := (fun k_ => P0_ k_)) hg zG59 (fun k_ e_ => (HO_0.out.1 k_ e_))))); clear HO_0 HB HK; obtain ⟨HO_0, HB, HK⟩ := n_; clear hg hw hp_))
   go_roundg k1
   case measure => have := HK1.out; omega
   case rel => exact ⟨(y330), (wrap64 ((wrap64 (x1_1 + 1)) + 1)), (wrap64 (x5_1 + 1)), zG82, zG82, H', ⟨zH88⟩, ⟨zH74⟩, ⟨zH46⟩, ⟨zH60⟩⟩
end Go.Proofs.Ytnkceaibkfbeaaa.E
