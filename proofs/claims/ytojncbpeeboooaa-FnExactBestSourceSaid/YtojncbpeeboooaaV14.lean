-- squeezed
-- made by pp.py (wip/tools) out of the translation; Lean checks it
import Derived.Laws.CopyRow
import Derived.Test.YtojncbpeeboooaaV0
import Derived.Test.YtojncbpeeboooaaV13
namespace Go.Proofs.Ytojncbpeeboooaa.V
open Go.RowKit Go.Proofs.YtojncbpeeboooaaW.PrintWords Go.Proofs.YtojncbpeeboooaaW.PrintLast Go.Proofs.YtojncbpeeboooaaW.PrintMore
attribute [local go_sem] max2_int min2_int max_two min_two max_three min_three max_four min_four   -- for this text's walks alone
set_option linter.unusedVariables false
set_option linter.unusedSimpArgs false

abbrev b14A0 := zM 10 0
abbrev b14A1 := zM 10 1
abbrev b14A2 := zM 10 3
abbrev b14A3 := zM 10 7
abbrev b14A4 := zM 10 23
abbrev b14A5 := zM 10 55
abbrev b14A6 := zM 10 119
abbrev b14A7 := zM 10 127
abbrev b14A8 := zM 10 255
abbrev b14A9 := zM 10 511
abbrev b14A10 := zM 10 1023
/-! ### laws_eqSourceS: function 38 -/
def laws_eqSourceS.l0 : Nat → List (S58) → List (S58) → Int → Option (Bool)
 | 0, _, _, _ => none
 | k + 1, x0, x1, x5 => if x5 < (x0.length : Int) then (if 0 ≤ x5 then (if x5 < (x1.length : Int) then ((laws_eqSource.f k ((rd_T58 x0 x5).f0) ((rd_T58 x0 x5).f1) ((rd_T58 x0 x5).f2) ((rd_T58 x1 x5).f0) ((rd_T58 x1 x5).f1) ((rd_T58 x1 x5).f2)).bind fun t337 => (if t337 = true then (laws_eqSourceS.l0 k x0 x1 (wrap64 (x5 + 1))) else (some false))) else (none)) else (none)) else (some true)
def laws_eqSourceS.f (k : Nat) (l0 : List (S58)) (l1 : List (S58)) : Option (Bool) := if (l0.length : Int) = (l1.length : Int) then (laws_eqSourceS.l0 k l0 l1 0) else (some false)
theorem laws_eqSourceS.mono_l : ∀ k, (∀ y0 y1 y2, LeO (laws_eqSourceS.l0 k y0 y1 y2) (laws_eqSourceS.l0 (k + 1) y0 y1 y2))
 | 0 => fun _ _ _ r h => by simp [laws_eqSourceS.l0] at h
 | k + 1 => by
  have ih0 := laws_eqSourceS.mono_l k
  ·intro y0 y1 y2
   unfold laws_eqSourceS.l0
   repeat' first
   | (with_reducible exact ih0 _ _ _)
   | (with_reducible exact laws_eqSource.mono _ _ _ _ _ _ _)
   | (with_reducible exact LeO.refl _)
   | (with_reducible exact LeO.none _)
   | (with_reducible refine LeO.ite ?_ ?_)
   | (with_reducible refine LeO.bind ?_ (fun _ => ?_))
   | exact ih0 _ _ _
   | exact laws_eqSource.mono _ _ _ _ _ _ _
   | exact LeO.none _
   | refine LeO.ite ?_ ?_
   | refine LeO.bind ?_ (fun _ => ?_)
theorem laws_eqSourceS.mono : ∀ a0 a1 k, LeO (laws_eqSourceS.f k a0 a1) (laws_eqSourceS.f (k + 1) a0 a1) := by
 intro a0 a1 k
 have ih0 := laws_eqSourceS.mono_l k
 unfold laws_eqSourceS.f
 repeat' first
   | (with_reducible exact ih0 _ _ _)
   | (with_reducible exact laws_eqSource.mono _ _ _ _ _ _ _)
   | (with_reducible exact LeO.refl _)
   | (with_reducible exact LeO.none _)
   | (with_reducible refine LeO.ite ?_ ?_)
   | (with_reducible refine LeO.bind ?_ (fun _ => ?_))
   | exact ih0 _ _ _
   | exact laws_eqSource.mono _ _ _ _ _ _ _
   | exact LeO.none _
   | refine LeO.ite ?_ ?_
   | refine LeO.bind ?_ (fun _ => ?_)
def laws_eqSourceS.T6 : Bool × List (List Nat × List Nat) := (true, [([], []), ([], []), ([0, 1], [0, 1]), ([2], [2]), ([], []), ([], []), ([4, 5], [4, 5]), ([6], [6]), ([3, 7], [3, 7]), ([8], [8])])
def laws_eqSourceS.B6 : List Nat := [0, 0, 3, 7, 0, 0, 48, 112, 255, 511]
theorem laws_eqSourceS.tab6 : rtab .any (opsOf Try.f38 6) = laws_eqSourceS.T6 := by kernel_rfl
theorem laws_eqSourceS.bits6 : waitsOk laws_eqSourceS.T6.2 laws_eqSourceS.B6 = true := by kernel_rfl
set_option maxHeartbeats 64000000 in
set_option maxRecDepth 100000 in
theorem laws_eqSourceS.calls (k : Nat) (A0 : Option Addr) (c0 : Nat) (l0 : List (S58)) (A1 : Option Addr) (c1 : Nat) (l1 : List (S58)) (r : Bool) (w : World) (hr0 : Kd.C k58 w A0 l0.length l0) (hc0 : l0.length ≤ c0) (hr1 : Kd.C k58 w A1 l1.length l1) (hc1 : l1.length ≤ c1) (h : laws_eqSourceS.f k l0 l1 = some r) :
  Calls Try.prog 38 #[.slice A0 l0.length c0, .slice A1 l1.length c1] w fun e w' => e = .returned (.bool r) ∧ Below w.heap.size w w' := by
 have hu58 := Try.underlying58
 obtain ⟨HR0, HC0, HR1, HC1, HB⟩ := zD5 hr0 hc0 hr1 hc1 (Below.refl w.heap.size w)
 clear hr0 hc0 hr1 hc1
 have H : (if (l0.length : Int) = (l1.length : Int) then (laws_eqSourceS.l0 k l0 l1 0) else (some false)) = some r := h
 clear h
 by_cases c3 : (l0.length : Int) = (l1.length : Int)
 rotate_left
 ·rw [if_neg c3] at H
  have c3b0 : ((l0.length : Int) == (l1.length : Int)) = false := beq_eq_false_iff_ne.mpr c3
  have c3b1 : ((l0.length : Int) != (l1.length : Int)) = true := bne_iff_ne.mpr c3
  have c3b2 : (l0.length == l1.length) = false := by first | simpa using c3 | (simp at c3 ⊢; omega)
  obtain rfl := Option.some.inj H
  go_enter Try.func38, Try.ntmps38
  go_wp2
  go_ret
  exact zH43

 rw [if_pos c3] at H
 have c3b0 : ((l0.length : Int) == (l1.length : Int)) = true := beq_iff_eq.mpr c3
 have c3b1 : ((l0.length : Int) != (l1.length : Int)) = false := bne_eq_false_iff_eq.mpr c3
 have c3b2 : (l0.length == l1.length) = true := by first | simpa using c3 | (simp at c3 ⊢; omega)
 clear c3
 have H' := za H
 clear H
 go_enter Try.func38, Try.ntmps38
 go_wp2
 go_loopg [5] k (fun kq v5 w' => ∃ (x5_1 : Int), v5 = .int .i64 x5_1 ∧ Aside0 (laws_eqSourceS.l0 kq l0 l1 x5_1 = some r) ∧ Aside0 (kq ≤ k) ∧ Aside0 (Below w.heap.size w w'))
 case atStart => exact ⟨(0), zG105, H', ⟨Nat.le_refl _⟩, ⟨zH104⟩⟩
 case round =>
  clear H'
  try clear c1
  try clear c3
  try clear c3b0
  try clear c3b1
  try clear c3b2
  obtain ⟨x5_1, rfl, HA, HK1, HB⟩ := hrel
  cases gk with
  | zero => exact absurd HA.out (by simp [laws_eqSourceS.l0])
  | succ k1 =>
   have H := HA.out
   clear HA
   simp only [laws_eqSourceS.l0] at H
   by_cases c4 : x5_1 < (l0.length : Int)
   rotate_left
   ·rw [if_neg c4] at H
    have c4b0 := decide_eq_false c4
    clear c4
    obtain rfl := Option.some.inj H
    go_wp2
    go_ret
    exact zH43
   rw [if_pos c4] at H
   have c4b0 := decide_eq_true c4
   clear c4
   by_cases c5 : 0 ≤ x5_1
   rotate_left
   ·rw [if_neg c5] at H
    exact absurd H (by simp)
   rw [if_pos c5] at H
   have c5b0 := decide_eq_true c5
   clear c5
   by_cases c6 : x5_1 < (l1.length : Int)
   rotate_left
   ·rw [if_neg c6] at H
    exact absurd H (by simp)
   rw [if_pos c6] at H
   have c6b0 := decide_eq_true c6
   clear c6
   replace H := Option.bind_eq_some_iff.mp H
   obtain ⟨t337, A70, H⟩ := H
   replace H : (if t337 = true then (laws_eqSourceS.l0 k1 l0 l1 (wrap64 (x5_1 + 1))) else (some false)) = some r := H
   have A7 := za A70
   clear A70
   by_cases c8 : t337 = true
   rotate_left
   ·replace c8 := Bool.eq_false_iff.mpr c8
    subst c8
    have H1 : (some false) = some r := by rw [if_neg (show ¬ (false = true) by decide)] at H; exact H
    clear H
    have H := H1
    clear H1
    obtain rfl := Option.some.inj H
    try go_wp2
    have n0_ := za (zg HB.out)
    clear HB
    have HB := n0_
    clear n0_
    have p335 : 0 ≤ (x5_1 : Int) := zO
    have q335 : x5_1 < (l0.length : Int) := zO
    obtain ⟨ad335, A335_2, c335_2, e335, hx335_0, hx335_1, hx335_2, hl335_2, hi335_2⟩ := at_T58 HR0.out x5_1 p335 q335
    have hw335_2 := hx335_2
    have hw335_1 := hx335_1
    have hw335_0 := hx335_0
    cases e335
    replace hx335_0 := (HB.out.cell (zj w _ hx335_0)).trans hx335_0
    replace hx335_1 := (HB.out.cell (zj w _ hx335_1)).trans hx335_1
    replace hx335_2 := (HB.out.cell (zj w _ hx335_2)).trans hx335_2
    obtain ⟨HR335_2, HC335_2⟩ := zD2 hi335_2 hl335_2
    clear hi335_2 hl335_2
    replace p335 := eq_true p335
    replace q335 := eq_true q335
    have p336 : 0 ≤ (x5_1 : Int) := zO
    have q336 : x5_1 < (l1.length : Int) := zO
    obtain ⟨ad336, A336_2, c336_2, e336, hx336_0, hx336_1, hx336_2, hl336_2, hi336_2⟩ := at_T58 HR1.out x5_1 p336 q336
    have hw336_2 := hx336_2
    have hw336_1 := hx336_1
    have hw336_0 := hx336_0
    cases e336
    replace hx336_0 := (HB.out.cell (zj w _ hx336_0)).trans hx336_0
    replace hx336_1 := (HB.out.cell (zj w _ hx336_1)).trans hx336_1
    replace hx336_2 := (HB.out.cell (zj w _ hx336_2)).trans hx336_2
    obtain ⟨HR336_2, HC336_2⟩ := zD2 hi336_2 hl336_2
    clear hi336_2 hl336_2
    replace p336 := eq_true p336
    replace q336 := eq_true q336
    refine start_ (n := 10) (S := fun w' => w'.cell? (ad335.add ((x5_1).toNat * 3)) = some (.string ((rd_T58 l0 x5_1).f0)) ∧ w'.cell? ⟨(ad335.add ((x5_1).toNat * 3)).block, (ad335.add ((x5_1).toNat * 3)).off + 1, none⟩ = some (.int .i64 ((rd_T58 l0 x5_1).f1)) ∧ w'.cell? ⟨(ad335.add ((x5_1).toNat * 3)).block, (ad335.add ((x5_1).toNat * 3)).off + 2, none⟩ = some (.slice A335_2 ((rd_T58 l0 x5_1).f2).length c335_2) ∧ w'.cell? (ad336.add ((x5_1).toNat * 3)) = some (.string ((rd_T58 l1 x5_1).f0)) ∧ w'.cell? ⟨(ad336.add ((x5_1).toNat * 3)).block, (ad336.add ((x5_1).toNat * 3)).off + 1, none⟩ = some (.int .i64 ((rd_T58 l1 x5_1).f1)) ∧ w'.cell? ⟨(ad336.add ((x5_1).toNat * 3)).block, (ad336.add ((x5_1).toNat * 3)).off + 2, none⟩ = some (.slice A336_2 ((rd_T58 l1 x5_1).f2).length c336_2)) (ds := []) b14A0 zG106 rfl rfl ⟨((HB.out.cell (zj w _ hw335_0)).trans hw335_0), ((HB.out.cell (zj w _ hw335_1)).trans hw335_1), ((HB.out.cell (zj w _ hw335_2)).trans hw335_2), ((HB.out.cell (zj w _ hw336_0)).trans hw336_0), ((HB.out.cell (zj w _ hw336_1)).trans hw336_1), ((HB.out.cell (zj w _ hw336_2)).trans hw336_2)⟩ (fun hHeld => ?_); refine with_tabW laws_eqSourceS.tab6 laws_eqSourceS.bits6 (fun HT_ HW_ => ?_)
    generalize wr.drew = w11 at HB HR335_2 HR336_2 hx335_0 hx335_1 hx335_2 hx336_0 hx336_1 hx336_2 hHeld ⊢
    refine zP 0 17 b14A1 HT_ ?_
    refine zP 1 18 b14A2 HT_ ?_
    refine zP 2 19 b14A3 HT_ ?_
    refine zP 4 21 b14A4 HT_ ?_
    refine zP 5 22 b14A5 HT_ ?_
    refine zP 6 23 b14A6 HT_ ?_
    refine zQ 3 20 b14A7 HT_ HW_ hHeld ?_
    refine zQ 7 24 b14A8 HT_ HW_ hHeld ?_
    refine one_ (i := 8) (N := some 25) b14A9 rfl rfl (one_of HT_.out zG106) zG107 (fun K hK => ?_)
    refine goes_ Try.func106 zG106 rfl #[.agg #[.string ((rd_T58 l0 x5_1).f0), .int .i64 ((rd_T58 l0 x5_1).f1), .slice A335_2 ((rd_T58 l0 x5_1).f2).length c335_2], .agg #[.string ((rd_T58 l1 x5_1).f0), .int .i64 ((rd_T58 l1 x5_1).f1), .slice A336_2 ((rd_T58 l1 x5_1).f2).length c336_2]] (by rfl) rfl rfl zG80 ?_
    with_reducible refine (laws_eqSource.calls k1 ((rd_T58 l0 x5_1).f0) ((rd_T58 l0 x5_1).f1) _ _ ((rd_T58 l0 x5_1).f2) ((rd_T58 l1 x5_1).f0) ((rd_T58 l1 x5_1).f1) _ _ ((rd_T58 l1 x5_1).f2) false _ ?side1 ?side2 ?side3 ?side4 A7.out).mono ?_
    (case side1 => exact zH66)
    (case side2 => exact HC335_2.out)
    (case side3 => exact zH67)
    (case side4 => exact HC336_2.out)
    rintro e w12 ⟨rfl, hb⟩
    refine ⟨_, rfl, ?_⟩
    have n0_ := za (zq zG85 hb)
    clear HB
    have HB := n0_
    clear n0_
    (try clear hb)
    (try clear hb2)
    (try clear hk)
    (try clear hi)
    refine hK.out _ _ ⟨((HB.out.cell (zj w _ hw335_0)).trans hw335_0), ((HB.out.cell (zj w _ hw335_1)).trans hw335_1), ((HB.out.cell (zj w _ hw335_2)).trans hw335_2), ((HB.out.cell (zj w _ hw336_0)).trans hw336_0), ((HB.out.cell (zj w _ hw336_1)).trans hw336_1), ((HB.out.cell (zj w _ hw336_2)).trans hw336_2)⟩ (fun hHeld => ?_)
    clear hK K
    refine norm_ (a' := ?_) ?_ ?_
    rotate_left
    ·show Act.put _ (some 25) _ = _
     simp only [Act.put, List.setIfInBounds_toArray, List.set_cons_zero, List.set_cons_succ, i64_w, i32_w]
     rfl
    refine zP 9 26 b14A10 HT_ ?_
    refine done_ (done_of HT_.out zG106) ?_
    try go_wp2
    go_ret
    exact zH43
   subst c8
   have H1 : (laws_eqSourceS.l0 k1 l0 l1 (wrap64 (x5_1 + 1))) = some r := by rw [if_pos rfl] at H; exact H
   clear H
   have H := H1
   clear H1
   have H' := za H
   clear H
   try go_wp2
   have n0_ := za (zg HB.out)
   clear HB
   have HB := n0_
   clear n0_
   have p335 : 0 ≤ (x5_1 : Int) := zO
   have q335 : x5_1 < (l0.length : Int) := zO
   obtain ⟨ad335, A335_2, c335_2, e335, hx335_0, hx335_1, hx335_2, hl335_2, hi335_2⟩ := at_T58 HR0.out x5_1 p335 q335
   have hw335_2 := hx335_2
   have hw335_1 := hx335_1
   have hw335_0 := hx335_0
   cases e335
   replace hx335_0 := (HB.out.cell (zj w _ hx335_0)).trans hx335_0
   replace hx335_1 := (HB.out.cell (zj w _ hx335_1)).trans hx335_1
   replace hx335_2 := (HB.out.cell (zj w _ hx335_2)).trans hx335_2
   obtain ⟨HR335_2, HC335_2⟩ := zD2 hi335_2 hl335_2
   clear hi335_2 hl335_2
   replace p335 := eq_true p335
   replace q335 := eq_true q335
   have p336 : 0 ≤ (x5_1 : Int) := zO
   have q336 : x5_1 < (l1.length : Int) := zO
   obtain ⟨ad336, A336_2, c336_2, e336, hx336_0, hx336_1, hx336_2, hl336_2, hi336_2⟩ := at_T58 HR1.out x5_1 p336 q336
   have hw336_2 := hx336_2
   have hw336_1 := hx336_1
   have hw336_0 := hx336_0
   cases e336
   replace hx336_0 := (HB.out.cell (zj w _ hx336_0)).trans hx336_0
   replace hx336_1 := (HB.out.cell (zj w _ hx336_1)).trans hx336_1
   replace hx336_2 := (HB.out.cell (zj w _ hx336_2)).trans hx336_2
   obtain ⟨HR336_2, HC336_2⟩ := zD2 hi336_2 hl336_2
   clear hi336_2 hl336_2
   replace p336 := eq_true p336
   replace q336 := eq_true q336
   refine start_ (n := 10) (S := fun w' => w'.cell? (ad335.add ((x5_1).toNat * 3)) = some (.string ((rd_T58 l0 x5_1).f0)) ∧ w'.cell? ⟨(ad335.add ((x5_1).toNat * 3)).block, (ad335.add ((x5_1).toNat * 3)).off + 1, none⟩ = some (.int .i64 ((rd_T58 l0 x5_1).f1)) ∧ w'.cell? ⟨(ad335.add ((x5_1).toNat * 3)).block, (ad335.add ((x5_1).toNat * 3)).off + 2, none⟩ = some (.slice A335_2 ((rd_T58 l0 x5_1).f2).length c335_2) ∧ w'.cell? (ad336.add ((x5_1).toNat * 3)) = some (.string ((rd_T58 l1 x5_1).f0)) ∧ w'.cell? ⟨(ad336.add ((x5_1).toNat * 3)).block, (ad336.add ((x5_1).toNat * 3)).off + 1, none⟩ = some (.int .i64 ((rd_T58 l1 x5_1).f1)) ∧ w'.cell? ⟨(ad336.add ((x5_1).toNat * 3)).block, (ad336.add ((x5_1).toNat * 3)).off + 2, none⟩ = some (.slice A336_2 ((rd_T58 l1 x5_1).f2).length c336_2)) (ds := []) b14A0 zG106 rfl rfl ⟨((HB.out.cell (zj w _ hw335_0)).trans hw335_0), ((HB.out.cell (zj w _ hw335_1)).trans hw335_1), ((HB.out.cell (zj w _ hw335_2)).trans hw335_2), ((HB.out.cell (zj w _ hw336_0)).trans hw336_0), ((HB.out.cell (zj w _ hw336_1)).trans hw336_1), ((HB.out.cell (zj w _ hw336_2)).trans hw336_2)⟩ (fun hHeld => ?_); refine with_tabW laws_eqSourceS.tab6 laws_eqSourceS.bits6 (fun HT_ HW_ => ?_)
   generalize wr.drew = w9 at HB HR335_2 HR336_2 hx335_0 hx335_1 hx335_2 hx336_0 hx336_1 hx336_2 hHeld ⊢
   refine zP 0 17 b14A1 HT_ ?_
   refine zP 1 18 b14A2 HT_ ?_
   refine zP 2 19 b14A3 HT_ ?_
   refine zP 4 21 b14A4 HT_ ?_
   refine zP 5 22 b14A5 HT_ ?_
   refine zP 6 23 b14A6 HT_ ?_
   refine zQ 3 20 b14A7 HT_ HW_ hHeld ?_
   refine zQ 7 24 b14A8 HT_ HW_ hHeld ?_
   refine one_ (i := 8) (N := some 25) b14A9 rfl rfl (one_of HT_.out zG106) zG107 (fun K hK => ?_)
   refine goes_ Try.func106 zG106 rfl #[.agg #[.string ((rd_T58 l0 x5_1).f0), .int .i64 ((rd_T58 l0 x5_1).f1), .slice A335_2 ((rd_T58 l0 x5_1).f2).length c335_2], .agg #[.string ((rd_T58 l1 x5_1).f0), .int .i64 ((rd_T58 l1 x5_1).f1), .slice A336_2 ((rd_T58 l1 x5_1).f2).length c336_2]] (by rfl) rfl rfl zG80 ?_
   with_reducible refine (laws_eqSource.calls k1 ((rd_T58 l0 x5_1).f0) ((rd_T58 l0 x5_1).f1) _ _ ((rd_T58 l0 x5_1).f2) ((rd_T58 l1 x5_1).f0) ((rd_T58 l1 x5_1).f1) _ _ ((rd_T58 l1 x5_1).f2) true _ ?side1 ?side2 ?side3 ?side4 A7.out).mono ?_
   (case side1 => exact zH66)
   (case side2 => exact HC335_2.out)
   (case side3 => exact zH67)
   (case side4 => exact HC336_2.out)
   rintro e w10 ⟨rfl, hb⟩
   refine ⟨_, rfl, ?_⟩
   have n0_ := za (zq zG85 hb)
   clear HB
   have HB := n0_
   clear n0_
   (try clear hb)
   (try clear hb2)
   (try clear hk)
   (try clear hi)
   refine hK.out _ _ ⟨((HB.out.cell (zj w _ hw335_0)).trans hw335_0), ((HB.out.cell (zj w _ hw335_1)).trans hw335_1), ((HB.out.cell (zj w _ hw335_2)).trans hw335_2), ((HB.out.cell (zj w _ hw336_0)).trans hw336_0), ((HB.out.cell (zj w _ hw336_1)).trans hw336_1), ((HB.out.cell (zj w _ hw336_2)).trans hw336_2)⟩ (fun hHeld => ?_)
   clear hK K
   refine norm_ (a' := ?_) ?_ ?_
   rotate_left
   ·show Act.put _ (some 25) _ = _
    simp only [Act.put, List.setIfInBounds_toArray, List.set_cons_zero, List.set_cons_succ, i64_w, i32_w]
    rfl
   refine zP 9 26 b14A10 HT_ ?_
   refine done_ (done_of HT_.out zG106) ?_
   try go_wp2
   go_roundg k1
   case measure => have := HK1.out; omega
   case rel => exact ⟨(wrap64 (x5_1 + 1)), zG105, H', ⟨zH127⟩, ⟨zH104⟩⟩
/-! ### laws_markText: function 108 -/
def laws_markText.l0 : Nat → Int → ByteArray → Option (ByteArray)
 | 0, _, _ => none
 | k + 1, x0, x3 => if x0 > 0 then ((some (([(wrap64 (48 + (Int.tmod x0 10))) % 256] : List Int) : List Int)).bind fun y338 => (if (strOfNums y338).size + x3.size ≤ 9223372036854775807 then (laws_markText.l0 k (wrap64 (Int.tdiv x0 10)) ((strOfNums y338) ++ x3)) else (none))) else (if 1 + x3.size ≤ 9223372036854775807 then (some ((⟨#[109]⟩ : ByteArray) ++ x3)) else (none))
def laws_markText.f (k : Nat) (a0 : Int) : Option (ByteArray) := if a0 ≤ 0 then (some (⟨#[109, 48]⟩ : ByteArray)) else (laws_markText.l0 k a0 (⟨#[]⟩ : ByteArray))
theorem laws_markText.mono_l : ∀ k, (∀ y0 y1, LeO (laws_markText.l0 k y0 y1) (laws_markText.l0 (k + 1) y0 y1))
 | 0 => fun _ _ r h => by simp [laws_markText.l0] at h
 | k + 1 => by
  have ih0 := laws_markText.mono_l k
  ·intro y0 y1
   unfold laws_markText.l0
   repeat' first
   | (with_reducible exact ih0 _ _)
   | (with_reducible exact LeO.refl _)
   | (with_reducible exact LeO.none _)
   | (with_reducible refine LeO.ite ?_ ?_)
   | (with_reducible refine LeO.bind ?_ (fun _ => ?_))
   | exact ih0 _ _
   | exact LeO.none _
   | refine LeO.ite ?_ ?_
   | refine LeO.bind ?_ (fun _ => ?_)
theorem laws_markText.mono : ∀ a0 k, LeO (laws_markText.f k a0) (laws_markText.f (k + 1) a0) := by
 intro a0 k
 have ih0 := laws_markText.mono_l k
 unfold laws_markText.f
 repeat' first
   | (with_reducible exact ih0 _ _)
   | (with_reducible exact LeO.refl _)
   | (with_reducible exact LeO.none _)
   | (with_reducible refine LeO.ite ?_ ?_)
   | (with_reducible refine LeO.bind ?_ (fun _ => ?_))
   | exact ih0 _ _
   | exact LeO.none _
   | refine LeO.ite ?_ ?_
   | refine LeO.bind ?_ (fun _ => ?_)
set_option maxHeartbeats 64000000 in
set_option maxRecDepth 100000 in
theorem laws_markText.calls (k : Nat) (a0 : Int) (r : ByteArray) (w : World) (h : laws_markText.f k a0 = some r) :
  Calls Try.prog 108 #[.int .i64 a0] w fun e w' => e = .returned (.string r) ∧ Below w.heap.size w w' := by
 have HB := za (Below.refl w.heap.size w)
 have H : (if a0 ≤ 0 then (some (⟨#[109, 48]⟩ : ByteArray)) else (laws_markText.l0 k a0 (⟨#[]⟩ : ByteArray))) = some r := h
 clear h
 by_cases c2 : a0 ≤ 0
 ·rw [if_pos c2] at H
  have c2b0 := decide_eq_true c2
  clear c2
  obtain rfl := Option.some.inj H
  go_enter Try.func108, Try.ntmps108
  go_wp2
  go_ret
  exact zH43
 rw [if_neg c2] at H
 have c2b0 := decide_eq_false c2
 clear c2
 have H' := za H
 clear H
 go_enter Try.func108, Try.ntmps108
 go_wp2
 go_loopg [0, 3] k (fun kq v0 v3 w' => ∃ (x0_1 : Int) (x3_1 : ByteArray), v0 = .int .i64 x0_1 ∧ v3 = .string x3_1 ∧ Aside0 (laws_markText.l0 kq x0_1 x3_1 = some r) ∧ Aside0 (kq ≤ k) ∧ Aside0 (Below w.heap.size w w'))
 case atStart => exact ⟨(a0), ((⟨#[]⟩ : ByteArray)), zG105, zG105, H', ⟨Nat.le_refl _⟩, ⟨zH104⟩⟩
 case round =>
  clear H'
  try clear c2
  try clear c2b0
  obtain ⟨x0_1, x3_1, rfl, rfl, HA, HK1, HB⟩ := hrel
  cases gk with
  | zero => exact absurd HA.out (by simp [laws_markText.l0])
  | succ k1 =>
   have H := HA.out
   clear HA
   simp only [laws_markText.l0] at H
   by_cases c3 : x0_1 > 0
   rotate_left
   ·rw [if_neg c3] at H
    have c3b0 : decide (0 < x0_1) = false := decide_eq_false c3
    clear c3
    by_cases c8 : 1 + x3_1.size ≤ 9223372036854775807
    rotate_left
    ·rw [if_neg c8] at H
     exact absurd H (by simp)

    rw [if_pos c8] at H
    have c8b0 := eq_true c8
    have c8b1 := decide_eq_true c8
    try have c8b2 : (9223372036854775807 < 1 + x3_1.size) = False := eq_false (Nat.not_lt.2 c8)
    obtain rfl := Option.some.inj H
    go_wp2
    go_ret
    exact zH43
   rw [if_pos c3] at H
   have c3b0 : decide (0 < x0_1) = true := decide_eq_true c3
   clear c3
   obtain ⟨y338, hy338⟩ : ∃ y_ : List Int, y_ = (([(wrap64 (48 + (Int.tmod x0_1 10))) % 256] : List Int)) := ⟨_, rfl⟩
   replace H : (if (strOfNums y338).size + x3_1.size ≤ 9223372036854775807 then (laws_markText.l0 k1 (wrap64 (Int.tdiv x0_1 10)) ((strOfNums y338) ++ x3_1)) else (none)) = some r := by first | (rw [hy338]; with_reducible exact H) | (have H2_ := (Option.bind_some _ _).symm.trans H; rw [hy338]; with_reducible exact H2_) | (have H2_ := (Option.bind_some _ _).symm.trans H; with_reducible exact H2_) | with_reducible exact H | (rw [hy338]; exact H) | exact H
   have Ny338 := za hy338
   clear hy338
   by_cases c4 : (strOfNums y338).size + x3_1.size ≤ 9223372036854775807
   rotate_left
   ·rw [if_neg c4] at H
    exact absurd H (by simp)
   rw [if_pos c4] at H
   have c4b0 := eq_true c4
   have c4b1 := decide_eq_true c4
   try have c4b2 : (9223372036854775807 < (strOfNums y338).size + x3_1.size) = False := eq_false (Nat.not_lt.2 c4)
   have H' := za H
   clear H
   go_wp2_with (first | ((with_reducible refine gate_dst (N := 12) rfl ?_); refine zbm (Kd.int .u8) _ 5 ?hg (N := 12) ?hd (xs := ([(wrap64 (48 + (Int.tmod x0_1 10))) % 256] : List Int)) (inner := [.int .u8 ((wrap64 (48 + (Int.tmod x0_1 10))) % 256)]) (ok := fun _ => True) (okp := fun _ => True) ?hr ?hp (fun _ hk => hk) trivial (Below.refl _ _) (Nat.le_refl _) (by simp) ?_; (case hd => rfl); (case hg => rfl); (case hr => exact zH124); (case hp => exact (Reps.one (show Kd.M (Kd.int .u8) _ _ _ ((wrap64 (48 + (Int.tmod x0_1 10))) % 256) [.int .u8 ((wrap64 (48 + (Int.tmod x0_1 10))) % 256)] from rfl) (Reps.none _ _))); intro v339 w5 ho6 hb hg_ hnew_; clear hg_ hnew_; (first | rw [← Ny338.out] at ho6 | (simp only [Int.reduceToNat] at ho6; rw [← Ny338.out] at ho6)); have n_ := zA_ (za (zah ho6 (zp zG85))) (za (zq zG85 hb)); clear HB; obtain ⟨HO340, HB⟩ := n_; clear hb ho6; have hcv7 := own_string (P := Try.prog) Try.underlying22 Try.underlying5 Try.underlying9 (Kd.own_of_R HO340.out)))
   go_roundg k1
   case measure => have := HK1.out; omega
   case rel => exact ⟨(wrap64 (Int.tdiv x0_1 10)), ((strOfNums y338) ++ x3_1), zG105, zG105, H', ⟨zH127⟩, ⟨zH104⟩⟩
/-! ### laws_markSourceS: function 40 -/
theorem hv_ne {W : World} {E : List Nat} {k t : Nat} {cs : Array Value} {fr : Nat × Nat} (h : ∃ q, q ∈ E ∧ ∃ cells, W.heap[k]? = some (.cells cells q (0, 0))) (hb : W.heap[k]? = some (.cells cs t fr)) (ht : t ∉ E) : False := by
 obtain ⟨q, hq, cells, hc⟩ := h
 rw [hc] at hb
 injection hb with hb
 injection hb with _ hb _
 exact ht (hb ▸ hq)
theorem hv_ne2 {W : World} {E : List Nat} {k t : Nat} {v : Value} (h : ∃ q, q ∈ E ∧ ∃ cells, W.heap[k]? = some (.cells cells q (0, 0))) (hT : ∀ k, v.ownBlock = some k → ∃ cells, W.heap[k]? = some (.cells cells t (0, 0))) (hk : some k = v.ownBlock) (ht : t ∉ E) : False := by
 obtain ⟨c, hc⟩ := hT k hk.symm
 exact hv_ne h hc ht
def hv_rows (k : Nat) : Nat → Int → Option Int
 | 0, a => some a
 | m + 1, a => (laws_markText.f k a).bind fun _ => hv_rows k m (wrap64 ((wrap64 (a + 1)) + 1))
theorem hv_rows_mono (k : Nat) : ∀ m a, LeO (hv_rows k m a) (hv_rows (k + 1) m a)
 | 0, _ => LeO.refl _
 | m + 1, a => by
  unfold hv_rows
  exact LeO.bind (laws_markText.mono _ _) (fun _ => hv_rows_mono k m _)
def laws_markSourceS.f (k : Nat) : List S58 → Int → Option Int
 | [], a => some a
 | x :: l, a => (laws_markText.f k a).bind fun _ => (hv_rows k x.f2.length (wrap64 ((wrap64 (a + 1)) + 1))).bind fun b => laws_markSourceS.f k l b
theorem laws_markSourceS.mono : ∀ (a0 : List S58) (a1 : Int) (k : Nat), LeO (laws_markSourceS.f k a0 a1) (laws_markSourceS.f (k + 1) a0 a1)
 | [], _, _ => LeO.refl _
 | x :: l, a, k => by
  unfold laws_markSourceS.f
  exact LeO.bind (laws_markText.mono _ _) (fun _ => LeO.bind (hv_rows_mono k _ _) (fun b => laws_markSourceS.mono l b k))
/-- Blocks keep their types and sizes; those outside S stay as they are. -/
def Hv (w w' : World) (S : Nat → Prop) : Prop := w.heap.size ≤ w'.heap.size ∧ ∀ k, k < w.heap.size → (¬ S k → w'.heap[k]? = w.heap[k]?) ∧ ∀ (cur : Array Value) (e : TypeId), w.heap[k]? = some (.cells cur e (0, 0)) → ∃ cur' : Array Value, w'.heap[k]? = some (.cells cur' e (0, 0)) ∧ cur'.size = cur.size
theorem Hv.refl (w : World) (S : Nat → Prop) : Hv w w S := ⟨Nat.le_refl _, fun k _ => ⟨fun _ => rfl, fun cur e h => ⟨cur, h, rfl⟩⟩⟩
theorem Hv.trans {w w1 w2 : World} {S T : Nat → Prop} (h : Hv w w1 S) (g : Hv w1 w2 T) (hT : ∀ k, k < w.heap.size → T k → S k) : Hv w w2 S :=
 ⟨Nat.le_trans h.1 g.1, fun k hk => ⟨fun hn => ((g.2 k (Nat.lt_of_lt_of_le hk h.1)).1 (fun ht => hn (hT k hk ht))).trans ((h.2 k hk).1 hn), fun cur e hc => by
  obtain ⟨c1, h1, s1⟩ := (h.2 k hk).2 cur e hc
  obtain ⟨c2, h2, s2⟩ := (g.2 k (Nat.lt_of_lt_of_le hk h.1)).2 c1 e h1
  exact ⟨c2, h2, s2.trans s1⟩⟩⟩
theorem Hv.below {w w1 w2 : World} {S : Nat → Prop} (h : Hv w w1 S) (hb : Below w1.heap.size w1 w2) : Hv w w2 S :=
 ⟨Nat.le_trans h.1 hb.size, fun k hk => by
  have e := hb.block k (Nat.lt_of_lt_of_le hk h.1)
  rw [e]
  exact h.2 k hk⟩
theorem hv_heap {w1 : World} {g o : Nat} {v : Value} {cur : Array Value} {e : TypeId} (hc : w1.heap[g]? = some (.cells cur e (0, 0))) : (w1.setCell ⟨g, o, none⟩ v).heap[g]? = some (.cells (cur.setIfInBounds o v) e (0, 0)) := by
 rw [setCell_eq_setRow w1 g o cur e (0, 0) v hc]
 exact setRow_heap w1 g cur _ e _ hc
theorem Hv.set {w w1 : World} {S : Nat → Prop} (h : Hv w w1 S) {g o : Nat} {v : Value} {cur : Array Value} {e : TypeId} (hc : w1.heap[g]? = some (.cells cur e (0, 0))) (hS : g < w.heap.size → S g) : Hv w (w1.setCell ⟨g, o, none⟩ v) S := by
 have hg : (w1.setCell ⟨g, o, none⟩ v).heap[g]? = some (.cells (cur.setIfInBounds o v) e (0, 0)) := by
  rw [setCell_eq_setRow w1 g o cur e (0, 0) v hc]
  exact setRow_heap w1 g cur _ e _ hc
 refine ⟨by have := h.1; simp only [World.setCell]; simpa using this, fun k hk => ?_⟩
 by_cases hk2 : k = g
 ·subst hk2
  refine ⟨fun hn => absurd (hS hk) hn, fun c0 e0 h0 => ?_⟩
  obtain ⟨c1, h1, s1⟩ := (h.2 k hk).2 c0 e0 h0
  rw [hc] at h1
  injection h1 with h1
  injection h1 with ha hb _
  subst ha; subst hb
  exact ⟨_, hg, by simpa using s1⟩
 ·rw [Below.heap_setCell w1 ⟨g, o, none⟩ v k hk2]
  exact h.2 k hk
theorem hv_cell {W : World} {g j : Nat} {cur : Array Value} {e : TypeId} (h : W.heap[g]? = some (.cells cur e (0, 0))) (hj : j < cur.size) : ∃ u, W.cell? ⟨g, j, none⟩ = some u ∧ W.frozen? ⟨g, j, none⟩ = false :=
 ⟨cur[j], by simp [World.cell?, h, hj], by simp [World.frozen?, h]⟩
/-- A slice of elements of some cells, of the call's own, as its value tells it. -/
def RawV (W : World) (base e sz m : Nat) (v : Value) : Prop := (v = .slice none 0 0 ∧ m = 0) ∨ ∃ g c cur, v = .slice (some ⟨g, 0, none⟩) m c ∧ base ≤ g ∧ W.heap[g]? = some (.cells cur e (0, 0)) ∧ m * sz ≤ cur.size
set_option maxHeartbeats 64000000 in
set_option maxRecDepth 100000 in
theorem hv_marks (k m : Nat) (v : Value) (a1 r1 : Int) (w0 w : World) (hB : Below w0.heap.size w0 w) (hv : RawV w w0.heap.size 124 2 m v) (hm : m ≤ maxLen) (h : hv_rows k m a1 = some r1) :
  Calls Try.prog 41 #[v, .int .i64 a1] w fun e w' => e = .returned (.int .i64 r1) ∧ Below w0.heap.size w0 w' ∧ Hv w w' (fun k_ => v.ownBlock = some k_) := by
 have hml : m ≤ 9223372036854775807 := hm
 obtain ⟨A, c, hvv⟩ : ∃ A c, v = .slice A m c := by
  rcases hv with ⟨rfl, rfl⟩ | ⟨g, c, cur, rfl, _⟩
  ·exact ⟨none, 0, rfl⟩
  ·exact ⟨_, c, rfl⟩
 subst hvv
 obtain ⟨HV, HM, HB0, H0⟩ := zD4 hv hml hB h
 clear hv hm hml hB h
 go_enter Try.func41, Try.ntmps41
 go_wp2
 go_loopg [1, 5] m (fun kq v1 v5 w' => ∃ (x1_1 : Int) (x5_1 : Int), v1 = .int .i64 x1_1 ∧ v5 = .int .i64 x5_1 ∧ Aside0 (hv_rows k (m - x5_1.toNat) x1_1 = some r1) ∧ Aside0 (0 ≤ x5_1 ∧ x5_1 ≤ (m : Int) ∧ m - x5_1.toNat ≤ kq) ∧ Aside0 (Below w0.heap.size w0 w') ∧ Aside0 (Hv w w' (fun k_ => (Value.slice A m c).ownBlock = some k_)))
 case atStart => exact ⟨a1, 0, zG105, zG105, ⟨by simpa using H0.out⟩, ⟨by omega⟩, ⟨zH100⟩, ⟨by first | exact Hv.refl _ _ | exact (Hv.refl w _ : Hv w w _)⟩⟩
 case round =>
  obtain ⟨x1_1, x5_1, rfl, rfl, HA, HI, HB, HH⟩ := hrel
  by_cases c3 : x5_1 < (m : Int)
  rotate_left
  ·have c3b0 := decide_eq_false c3
   have hz : m - x5_1.toNat = 0 := by have := HI.out; omega
   have H := HA.out
   rw [hz, hv_rows] at H
   obtain rfl := Option.some.inj H
   clear H HA c3
   go_wp2
   go_ret
   exact ⟨by first | rfl | (simp; done), zH104, HH.out⟩
  have c3b0 := decide_eq_true c3
  have c4b0 : decide (0 ≤ x5_1) = true := decide_eq_true HI.out.1
  obtain ⟨n, hn⟩ : ∃ n, m - x5_1.toNat = n + 1 := ⟨m - x5_1.toNat - 1, by have := HI.out; omega⟩
  have H := HA.out
  rw [hn, hv_rows] at H
  obtain ⟨t, A4, H⟩ := Option.bind_eq_some_iff.mp H
  have A4 := za A4
  have H' := za H
  obtain ⟨HN, C3⟩ := zD2 hn c3
  clear H HA hn
  obtain ⟨g, cur, hAc, hge, hcu, hsz⟩ : ∃ g cur, A = some ⟨g, 0, none⟩ ∧ w0.heap.size ≤ g ∧ w.heap[g]? = some (.cells cur 124 (0, 0)) ∧ m * 2 ≤ cur.size := by
   rcases HV.out with ⟨_, hm0⟩ | ⟨g, c', cur, he, h1, h2, h3⟩
   ·have := HI.out; omega
   ·injection he with he1 _ _
    exact ⟨g, cur, he1, h1, h2, h3⟩
  subst hAc
  have hlt : g < w.heap.size := (Array.getElem?_eq_some_iff.1 hcu).1
  obtain ⟨cur1, hcu1, hs1⟩ := (HH.out.2 g hlt).2 cur 124 hcu
  obtain ⟨HC1, HS1, HGE⟩ := zD3 hcu1 (show x5_1.toNat * 2 + 1 < cur1.size by have := HI.out; omega) hge
  clear hge hcu hsz hs1 hcu1 hlt
  have p5 : (0 ≤ x5_1) = True := eq_true HI.out.1
  have q5 : (x5_1 < (m : Int)) = True := eq_true c3
  clear c3
  go_wp2_with (first | ((with_reducible refine gate_callee (f := 108) rfl ?_); refine goesL_ (some 15) rfl rfl Try.func108 zG106 rfl #[.int .i64 x1_1] rfl zK234 ?_; (with_reducible refine (laws_markText.calls k x1_1 t _ A4.out).mono ?_); rintro e w9 ⟨rfl, hb⟩; refine ⟨_, rfl, ?_⟩; have n0_ := za (zq zG85 hb); have n1_ := za (Hv.below HH.out hb); have n2_ := za ((hb.block g (Array.getElem?_eq_some_iff.1 HC1.out).1).trans HC1.out); clear HB HH HC1; have HB := n0_; have HH := n1_; have HC1 := n2_; clear n0_ n1_ n2_ hb; obtain ⟨ue0, hx6_0, hf6_0⟩ := hv_cell HC1.out (show x5_1.toNat * 2 < cur1.size by have := HS1.out; omega); obtain ⟨ue1, hx6_1, hf6_1⟩ := hv_cell HC1.out (show x5_1.toNat * 2 + 1 < cur1.size by have := HS1.out; omega)))
  have hw5 : wrap64 (x5_1 + 1) = x5_1 + 1 := by have := HI.out; have := HM.out; have := C3.out; unfold wrap64; omega
  have HW5 := za hw5
  clear hw5
  go_roundg n
  case measure => have := HI.out; have := HN.out; omega
  case rel =>
   refine ⟨wrap64 ((wrap64 (x1_1 + 1)) + 1), wrap64 (x5_1 + 1), rfl, rfl, ⟨?_⟩, ⟨?_⟩, ⟨zf (zf HB.out HGE.out) HGE.out⟩, ⟨Hv.set (Hv.set HH.out HC1.out (fun _ => rfl)) (hv_heap HC1.out) (fun _ => rfl)⟩⟩
   ·rw [HW5.out, show m - (x5_1 + 1).toNat = n by have := HI.out; have := HN.out; omega]
    exact H'.out
   ·rw [HW5.out]
    have := HI.out; have := HN.out; have := C3.out
    exact ⟨by omega, by omega, by omega⟩
theorem RawV.move {W W' : World} {base e sz m : Nat} {v : Value} {S : Nat → Prop} (h : RawV W base e sz m v) (g : Hv W W' S) : RawV W' base e sz m v := by
 rcases h with h | ⟨b, c, cur, rfl, hb, hc, hs⟩
 ·exact .inl h
 ·obtain ⟨cur', hc', hs'⟩ := (g.2 b (Array.getElem?_eq_some_iff.1 hc).1).2 cur e hc
  exact .inr ⟨b, c, cur', rfl, hb, hc', by omega⟩
theorem RawV.of_R {α : Type} {d : Kd α} {e base : Nat} {W : World} {ok : Nat → Prop} {v : Value} {xs : List α} (h : d.R e W base ok v xs) : RawV W base e d.sz xs.length v ∧ (xs.length ≤ maxLen) := by
 obtain ⟨inner, _, ho⟩ := Kd.R_own h
 rcases ho with ⟨rfl, h0⟩ | ⟨g, cap, cur, rfl, hb, hc, hn, hm, hs, _⟩
 ·exact ⟨.inl ⟨rfl, h0⟩, by rw [h0]; exact Nat.zero_le _⟩
 ·exact ⟨.inr ⟨g, cap, cur, rfl, hb, hc, by rw [hs]; exact Nat.mul_le_mul_right _ hn⟩, Nat.le_trans hn hm⟩
theorem hv_at {W : World} {g j : Nat} {cur : Array Value} {e : TypeId} (h : W.heap[g]? = some (.cells cur e (0, 0))) : W.cell? ⟨g, j, none⟩ = cur[j]? := by simp [World.cell?, h]
/-- The outer row, as it stands at W: its structs' slices are where they were. -/
def Out (W : World) (go : Nat) (curO : Array Value) : Prop := ∃ cur : Array Value, W.heap[go]? = some (.cells cur 58 (0, 0)) ∧ cur.size = curO.size ∧ ∀ i, cur[i * 3 + 2]? = curO[i * 3 + 2]?
theorem Out.set {W : World} {go i : Nat} {curO : Array Value} {v : Value} (h : Out W go curO) (j : Nat) (hj : ∃ d, d < 2 ∧ j = i * 3 + d) : Out (W.setCell ⟨go, j, none⟩ v) go curO := by
 obtain ⟨cur, h1, h2, h3⟩ := h
 obtain ⟨d_, hd_, hj⟩ := hj
 refine ⟨_, hv_heap h1, by simpa using h2, fun l => ?_⟩
 rw [Array.getElem?_setIfInBounds_ne (by omega)]
 exact h3 l
theorem Out.below {W W1 : World} {go : Nat} {curO : Array Value} (h : Out W go curO) (hb : Below W.heap.size W W1) : Out W1 go curO := by
 obtain ⟨cur, h1, h2⟩ := h
 exact ⟨cur, (hb.block go (Array.getElem?_eq_some_iff.1 h1).1).trans h1, h2⟩
theorem Out.hv {W W1 : World} {go : Nat} {curO : Array Value} {S : Nat → Prop} (h : Out W go curO) (hb : Hv W W1 S) (hn : ¬ S go) : Out W1 go curO := by
 obtain ⟨cur, h1, h2⟩ := h
 exact ⟨cur, ((hb.2 go (Array.getElem?_eq_some_iff.1 h1).1).1 hn).trans h1, h2⟩
theorem Kept.of_Hv {w w' : World} {S : Nat → Prop} (h : Hv w w' S) : Kept w w' S := ⟨h.1, fun k hk hn => (h.2 k hk).1 hn⟩
set_option maxHeartbeats 64000000 in
set_option maxRecDepth 100000 in
theorem laws_markSourceS.calls (k : Nat) (P0_ : Nat → Prop) (u9000_ : Value) (l0 : List (S58)) (a1 : Int) (r1 : Int) (w0 w : World) (hB : Below w0.heap.size w0 w) (ho0 : Kd.R k58 58 w w0.heap.size P0_ u9000_ l0) (h : laws_markSourceS.f k l0 a1 = some r1) :
  Calls Try.prog 40 #[u9000_, .int .i64 a1] w fun e w' => e = .returned (.int .i64 r1) ∧ Below w0.heap.size w0 w' ∧ Kept w w' (fun k_ => P0_ k_ ∧ ∃ q, q ∈ [58, 124] ∧ ∃ cells, w.heap[k_]? = some (.cells cells q (0, 0))) := by
 obtain ⟨A, c, hvv⟩ := zaf ho0
 subst hvv
 have hlen := (RawV.of_R ho0).2
 have hml : l0.length ≤ 9223372036854775807 := hlen
 obtain ⟨HM, HO, HB0, H0⟩ := zD4 hml ho0 hB h
 -- what the outer row is, where there is one
 have hout : 0 < l0.length → ∃ go curO, A = some ⟨go, 0, none⟩ ∧ w0.heap.size ≤ go ∧ P0_ go ∧ w.heap[go]? = some (.cells curO 58 (0, 0)) ∧ l0.length * 3 ≤ curO.size ∧
   ∀ (i : Nat) x, l0[i]? = some x → ∃ v, curO[i * 3 + 2]? = some v ∧ RawV w w0.heap.size 124 2 x.f2.length v ∧ x.f2.length ≤ maxLen ∧ ∀ k_, v.ownBlock = some k_ → k_ ≠ go ∧ P0_ k_ ∧ ∃ cells, w.heap[k_]? = some (.cells cells 124 (0, 0)) := by
  intro hp
  obtain ⟨go, cap, he, hge, hlt, cells, hcells⟩ := Kd.R_form ho0 hp
  injection he with he1 _ he3
  subst he1; subst he3
  have hsz : l0.length * 3 ≤ cells.size := by
   rcases (RawV.of_R ho0).1 with ⟨hz, _⟩ | ⟨g, c', cur, hz, _, hc, hs⟩
   ·simp at hz
   ·injection hz with hz1 _ _
    injection hz1 with hz2
    injection hz2 with hz3
    subst hz3
    rw [hcells] at hc
    injection hc with hc
    injection hc with hc1
    subst hc1
    exact hs
  refine ⟨go, cells, rfl, hge, ho0.1 go rfl, hcells, hsz, fun i x hx => ?_⟩
  have hi : i < l0.length := (List.getElem?_eq_some_iff.1 hx).1
  obtain ⟨ce, hcl, hM, hcc, _⟩ := zbk ho0 z58 (i : Int) (by omega) (by omega)
  have hgx : l0.getD (i : Int).toNat z58 = x := by rw [Int.toNat_natCast, List.getD_eq_getElem?_getD, hx]; rfl
  rw [hgx] at hM
  obtain ⟨v, rfl, hR⟩ := k58_openM hM
  have h2 := hcc 2 v rfl
  rw [Int.toNat_natCast] at h2
  have h2' : w.cell? ⟨go, i * 3 + 2, none⟩ = some v := h2
  rw [hv_at hcells] at h2'
  refine ⟨v, h2', (RawV.of_R hR).1, (RawV.of_R hR).2, fun k_ hk_ => ?_⟩
  have h3 := hR.1 k_ hk_
  exact ⟨h3.2, h3.1, zbf hR k_ hk_⟩
 have HOUT := za hout
 clear hout hlen hml ho0 hB h
 go_enter Try.func40, Try.ntmps40
 go_wp2
 go_loopg [1, 5] l0.length (fun kq v1 v5 w' => ∃ (x1_1 : Int) (x5_1 : Int), v1 = .int .i64 x1_1 ∧ v5 = .int .i64 x5_1 ∧ Aside0 (laws_markSourceS.f k (l0.drop x5_1.toNat) x1_1 = some r1) ∧ Aside0 (0 ≤ x5_1 ∧ x5_1 ≤ (l0.length : Int) ∧ l0.length - x5_1.toNat ≤ kq) ∧ Aside0 (Below w0.heap.size w0 w') ∧ Aside0 (Hv w w' (fun k_ => P0_ k_ ∧ ∃ q, q ∈ [58, 124] ∧ ∃ cells, w.heap[k_]? = some (.cells cells q (0, 0)))) ∧ Aside0 (∀ go curO, A = some ⟨go, 0, none⟩ → w.heap[go]? = some (.cells curO 58 (0, 0)) → Out w' go curO))
 case atStart => exact ⟨a1, 0, zG105, zG105, ⟨by simpa using H0.out⟩, ⟨by omega⟩, ⟨zH100⟩, ⟨Hv.refl w _⟩, ⟨fun go curO _ hc => ⟨curO, hc, rfl, fun _ => rfl⟩⟩⟩
 case round =>
  obtain ⟨x1_1, x5_1, rfl, rfl, HA, HI, HB, HH, HU⟩ := hrel
  by_cases c3 : x5_1 < (l0.length : Int)
  rotate_left
  ·have c3b0 := decide_eq_false c3
   have hz : l0.drop x5_1.toNat = [] := List.drop_eq_nil_of_le (by have := HI.out; omega)
   have H := HA.out
   rw [hz, laws_markSourceS.f] at H
   obtain rfl := Option.some.inj H
   clear H HA c3
   go_wp2
   go_ret
   exact ⟨by first | rfl | (simp; done), zH104, Kept.of_Hv HH.out⟩


  have c3b0 := decide_eq_true c3
  have c4b0 : decide (0 ≤ x5_1) = true := decide_eq_true HI.out.1
  have hi : x5_1.toNat < l0.length := by have := HI.out; omega
  have hd := List.drop_eq_getElem_cons hi
  have hx : l0[x5_1.toNat]? = some l0[x5_1.toNat] := List.getElem?_eq_getElem hi
  generalize l0[x5_1.toNat] = x at hd hx
  have H := HA.out
  rw [hd, laws_markSourceS.f] at H
  obtain ⟨t, A4, H⟩ := Option.bind_eq_some_iff.mp H
  obtain ⟨b, A5, H⟩ := Option.bind_eq_some_iff.mp H
  obtain ⟨A4, A5⟩ := zD2 A4 A5
  have H' := za H
  have C3 := za c3
  clear H HA hd
  obtain ⟨go, curO, hA, hge, hPg, hcu, hsz, hkids⟩ := HOUT.out (by omega)
  subst hA
  obtain ⟨v2, hv2, hraw, hvm, hvk⟩ := hkids x5_1.toNat x hx
  obtain ⟨HU0, HS1, HGE, HPG, HV2, HRAW, HVM, HVK, HCU⟩ := zD9 (HU.out go curO rfl hcu) (show x5_1.toNat * 3 + 2 < curO.size by omega) hge (show P0_ go ∧ ∃ q, q ∈ [58, 124] ∧ ∃ cells, w.heap[go]? = some (.cells cells q (0, 0)) from ⟨hPg, 58, by simp, curO, hcu⟩) hv2 hraw hvm hvk hcu
  clear hge hcu hsz hkids hv2 hraw hvm hvk hPg hi hx
  have p5 : (0 ≤ x5_1) = True := eq_true HI.out.1
  have q5 : (x5_1 < (l0.length : Int)) = True := eq_true c3
  clear c3 HU
  go_wp2_with (first | ((with_reducible refine gate_callee (f := 108) rfl ?_); refine goesL_ (some 15) rfl rfl Try.func108 zG106 rfl #[.int .i64 x1_1] rfl zK234 ?_; (with_reducible refine (laws_markText.calls k x1_1 t _ A4.out).mono ?_); rintro e w9 ⟨rfl, hb⟩; refine ⟨_, rfl, ?_⟩; have n0_ := za (zq zG85 hb); have n1_ := za (Hv.below HH.out hb); have n2_ := za (Out.below HU0.out hb); clear HB HH HU0; have HB := n0_; have HH := n1_; have HU0 := n2_; clear n0_ n1_ n2_ hb; obtain ⟨cur9, hc9, hs9, hk9⟩ := HU0.out; have HC9 := za hc9; obtain ⟨ue0, hx6_0, hf6_0⟩ := hv_cell hc9 (show x5_1.toNat * 3 < cur9.size by have := HS1.out; omega); obtain ⟨ue1, hx6_1, hf6_1⟩ := hv_cell hc9 (show x5_1.toNat * 3 + 1 < cur9.size by have := HS1.out; omega); have hx6_2 : w9.cell? ⟨go, x5_1.toNat * 3 + 2, none⟩ = some v2 := (hv_at hc9).trans ((hk9 _).trans HV2.out); clear hc9 hs9 hk9) | ((with_reducible refine gate_callee (f := 41) rfl ?_); refine goesL_ (some 33) rfl rfl Try.func41 zG106 rfl #[v2, .int .i64 (wrap64 ((wrap64 (x1_1 + 1)) + 1))] rfl zK234 ?_; have n3_ := za (Hv.set (v := .int .i64 (wrap64 (x1_1 + 1))) (o := x5_1.toNat * 3 + 1) (Hv.set (v := .string t) (o := x5_1.toNat * 3) HH.out HC9.out (fun _ => HPG.out)) (hv_heap HC9.out) (fun _ => HPG.out)); refine (hv_marks k x.f2.length v2 _ b w0 _ (zf (zf HB.out HGE.out) HGE.out) (RawV.move HRAW.out n3_.out) HVM.out A5.out).mono ?_; rintro e w12 ⟨rfl, hb, hv12⟩; refine ⟨_, rfl, ?_⟩; have n0_ := za hb; have n1_ := za (Hv.trans n3_.out hv12 (fun k_ _ ht => ⟨(HVK.out k_ ht).2.1, 124, by simp, (HVK.out k_ ht).2.2⟩)); have n2_ := za (Out.hv (Out.set (v := .int .i64 (wrap64 (x1_1 + 1))) (Out.set (v := .string t) HU0.out (i := x5_1.toNat) _ ⟨0, by omega, rfl⟩) (i := x5_1.toNat) _ ⟨1, by omega, rfl⟩) hv12 (fun e_ => (HVK.out go e_).1 rfl)); clear HB HH HU0; have HB := n0_; have HH := n1_; have HU0 := n2_; clear n0_ n1_ n2_ n3_ hb hv12))
  have HW5 := za (show wrap64 (x5_1 + 1) = x5_1 + 1 by have := HI.out; have := HM.out; have := C3.out; unfold wrap64; omega)
  go_roundg (l0.length - x5_1.toNat - 1)
  case measure => have := HI.out; have := C3.out; omega
  case rel =>
   refine ⟨b, wrap64 (x5_1 + 1), rfl, rfl, ⟨?_⟩, ⟨?_⟩, ⟨HB.out⟩, ⟨HH.out⟩, ⟨fun go' curO' hg hc => ?_⟩⟩
   ·rw [HW5.out, show (x5_1 + 1).toNat = x5_1.toNat + 1 by have := HI.out; omega]
    exact H'.out
   ·rw [HW5.out]
    have := HI.out; have := C3.out
    exact ⟨by omega, by omega, by omega⟩
   ·injection hg with hg1
    injection hg1 with hg2
    subst hg2
    have hh := HCU.out
    rw [hc] at hh
    injection hh with hh
    injection hh with hh1
    subst hh1
    exact HU0.out
/-! ### laws_markStockedS: function 41 -/
def laws_markStockedS.l0 : Nat → List (S124) → Int → Int → Option (Int × (List (S124)))
 | 0, _, _, _ => none
 | k + 1, x0, x1, x5 => if x5 < (x0.length : Int) then ((laws_markText.f k x1).bind fun t341 => (if 0 ≤ x5 then ((some (x0.set (x5 : Int).toNat (⟨t341, (rd_T124 x0 x5).f1⟩ : S124) : List (S124))).bind fun y342 => (laws_markStockedS.l0 k (y342.set (x5 : Int).toNat (⟨(rd_T124 y342 x5).f0, wrap64 (x1 + 1)⟩ : S124)) (wrap64 ((wrap64 (x1 + 1)) + 1)) (wrap64 (x5 + 1)))) else (none))) else (some (x1, x0))
def laws_markStockedS.f (k : Nat) (l0 : List (S124)) (a1 : Int) : Option (Int × (List (S124))) := laws_markStockedS.l0 k l0 a1 0
theorem laws_markStockedS.mono_l : ∀ k, (∀ y0 y1 y2, LeO (laws_markStockedS.l0 k y0 y1 y2) (laws_markStockedS.l0 (k + 1) y0 y1 y2))
 | 0 => fun _ _ _ r h => by simp [laws_markStockedS.l0] at h
 | k + 1 => by
  have ih0 := laws_markStockedS.mono_l k
  ·intro y0 y1 y2
   unfold laws_markStockedS.l0
   repeat' first
   | (with_reducible exact ih0 _ _ _)
   | (with_reducible exact laws_markText.mono _ _)
   | (with_reducible exact LeO.refl _)
   | (with_reducible exact LeO.none _)
   | (with_reducible refine LeO.ite ?_ ?_)
   | (with_reducible refine LeO.bind ?_ (fun _ => ?_))
   | exact ih0 _ _ _
   | exact laws_markText.mono _ _
   | exact LeO.none _
   | refine LeO.ite ?_ ?_
   | refine LeO.bind ?_ (fun _ => ?_)
theorem laws_markStockedS.mono : ∀ a0 a1 k, LeO (laws_markStockedS.f k a0 a1) (laws_markStockedS.f (k + 1) a0 a1) := by
 intro a0 a1 k
 have ih0 := laws_markStockedS.mono_l k
 unfold laws_markStockedS.f
 repeat' first
   | (with_reducible exact ih0 _ _ _)
   | (with_reducible exact laws_markText.mono _ _)
   | (with_reducible exact LeO.refl _)
   | (with_reducible exact LeO.none _)
   | (with_reducible refine LeO.ite ?_ ?_)
   | (with_reducible refine LeO.bind ?_ (fun _ => ?_))
   | exact ih0 _ _ _
   | exact laws_markText.mono _ _
   | exact LeO.none _
   | refine LeO.ite ?_ ?_
   | refine LeO.bind ?_ (fun _ => ?_)
set_option maxHeartbeats 64000000 in
set_option maxRecDepth 100000 in
theorem laws_markStockedS.calls (k : Nat) (P0_ : Nat → Prop) (u9000_ : Value) (l0 : List (S124)) (a1 : Int) (r1 : Int) (r2 : List (S124)) (w0 w : World) (hB : Below w0.heap.size w0 w) (ho0 : Kd.R k124 124 w w0.heap.size P0_ u9000_ l0) (h : laws_markStockedS.f k l0 a1 = some (r1, r2)) :
  Calls Try.prog 41 #[u9000_, .int .i64 a1] w fun e w' => e = .returned (.int .i64 r1) ∧ Kd.R k124 124 w' w0.heap.size (fun k_ => (P0_ k_ ∨ w.heap.size ≤ k_)) u9000_ r2 ∧ Below w0.heap.size w0 w' ∧ Kept w w' (fun k_ => P0_ k_) := by
 obtain ⟨HO0, HK, HW0, HB⟩ := zD4 (show Kd.R k124 124 w w0.heap.size (fun k_ => (P0_ k_ ∨ w.heap.size ≤ k_)) u9000_ l0 from zx ho0 (fun k_ hk => (.inl hk))) (Kept.refl w (fun k_ => P0_ k_)) hB.size hB
 clear hB
 have H : (laws_markStockedS.l0 k l0 a1 0) = some (r1, r2) := h
 clear h
 have H' := za H
 clear H
 go_enter Try.func41, Try.ntmps41
 go_wp2
 go_loopg [1, 5] k (fun kq v1 v5 w' => ∃ (x0_1 : List (S124)) (x1_1 : Int) (x5_1 : Int), v1 = .int .i64 x1_1 ∧ v5 = .int .i64 x5_1 ∧ Aside0 (laws_markStockedS.l0 kq x0_1 x1_1 x5_1 = some (r1, r2)) ∧ Aside0 (kq ≤ k) ∧ Aside0 (Kd.R k124 124 w' w0.heap.size (fun k_ => (P0_ k_ ∨ w.heap.size ≤ k_)) u9000_ x0_1) ∧ Aside0 (Kept w w' (fun k_ => P0_ k_)) ∧ Aside0 (Below w0.heap.size w0 w'))
 case atStart => exact ⟨(l0), (a1), (0), zG105, zG105, H', ⟨Nat.le_refl _⟩, ⟨by (with_reducible repeat (first | apply zl | apply zm | apply zn)); exact HO0.out⟩, ⟨zH89⟩, ⟨zH104⟩⟩
 case round =>
  clear H'
  obtain ⟨x0_1, x1_1, x5_1, rfl, rfl, HA, HK1, HO_0, HK, HB⟩ := hrel
  cases gk with
  | zero => exact absurd HA.out (by simp [laws_markStockedS.l0])
  | succ k1 =>
   have H := HA.out
   clear HA
   simp only [laws_markStockedS.l0] at H
   by_cases c3 : x5_1 < (x0_1.length : Int)
   rotate_left
   ·rw [if_neg c3] at H
    have c3b0 := decide_eq_false c3
    clear c3
    simp only [Option.some.injEq, Prod.mk.injEq] at H
    obtain ⟨rfl, rfl⟩ := H
    obtain ⟨Ao14, co14, eo14⟩ := zaf HO_0.out
    subst eo14
    go_wp2
    go_ret
    exact zH9

   rw [if_pos c3] at H
   have c3b0 := decide_eq_true c3
   clear c3
   replace H := Option.bind_eq_some_iff.mp H
   obtain ⟨t341, A40, H⟩ := H
   replace H : (if 0 ≤ x5_1 then ((some (x0_1.set (x5_1 : Int).toNat (⟨t341, (rd_T124 x0_1 x5_1).f1⟩ : S124) : List (S124))).bind fun y342 => (laws_markStockedS.l0 k1 (y342.set (x5_1 : Int).toNat (⟨(rd_T124 y342 x5_1).f0, wrap64 (x1_1 + 1)⟩ : S124)) (wrap64 ((wrap64 (x1_1 + 1)) + 1)) (wrap64 (x5_1 + 1)))) else (none)) = some (r1, r2) := H
   have A4 := za A40
   clear A40
   by_cases c5 : 0 ≤ x5_1
   rotate_left
   ·rw [if_neg c5] at H
    exact absurd H (by simp)
   rw [if_pos c5] at H
   have c5b0 := decide_eq_true c5
   clear c5
   obtain ⟨y342, hy342⟩ : ∃ y_ : List (S124), y_ = (x0_1.set (x5_1 : Int).toNat (⟨t341, (rd_T124 x0_1 x5_1).f1⟩ : S124)) := ⟨_, rfl⟩
   replace H : (laws_markStockedS.l0 k1 (y342.set (x5_1 : Int).toNat (⟨(rd_T124 y342 x5_1).f0, wrap64 (x1_1 + 1)⟩ : S124)) (wrap64 ((wrap64 (x1_1 + 1)) + 1)) (wrap64 (x5_1 + 1))) = some (r1, r2) := by first | (rw [hy342]; with_reducible exact H) | (have H2_ := (Option.bind_some _ _).symm.trans H; rw [hy342]; with_reducible exact H2_) | (have H2_ := (Option.bind_some _ _).symm.trans H; with_reducible exact H2_) | with_reducible exact H | (rw [hy342]; exact H) | exact H
   have Ny342 := za hy342
   clear hy342
   obtain ⟨y343, hy343⟩ : ∃ y_ : List (S124), y_ = (y342.set (x5_1 : Int).toNat (⟨(rd_T124 y342 x5_1).f0, wrap64 (x1_1 + 1)⟩ : S124)) := ⟨_, rfl⟩
   replace H : (laws_markStockedS.l0 k1 y343 (wrap64 ((wrap64 (x1_1 + 1)) + 1)) (wrap64 (x5_1 + 1))) = some (r1, r2) := by first | (rw [hy343]; with_reducible exact H) | (have H2_ := (Option.bind_some _ _).symm.trans H; rw [hy343]; with_reducible exact H2_) | (have H2_ := (Option.bind_some _ _).symm.trans H; with_reducible exact H2_) | with_reducible exact H | (rw [hy343]; exact H) | exact H
   have Ny343 := za hy343
   clear hy343
   have H' := za H
   clear H
   obtain ⟨Ao8, co8, eo8⟩ := zaf HO_0.out
   subst eo8
   go_wp2_with (first | ((with_reducible refine gate_callee (f := 108) rfl ?_); refine goesL_ (some 15) rfl rfl Try.func108 zG106 rfl #[.int .i64 x1_1] rfl zG80 ?_; (with_reducible refine (laws_markText.calls k1 x1_1 t341 _ A4.out).mono ?_); rintro e w9 ⟨rfl, hb⟩; refine ⟨_, rfl, ?_⟩; have n_ := zA_ (za (zt zK246 hb)) (zA_ (za (Kept.below (S := (fun k_ => P0_ k_)) zK207 hb)) (za (zq zG85 hb))); clear HO_0 HK HB; obtain ⟨HO_0, HK, HB⟩ := n_; (try clear hb); (try clear hk); have p6 : 0 ≤ (x5_1 : Int) := zO; have q6 : (x5_1 : Int) < ((x0_1.length : Int) : Int) := zO; obtain ⟨go6, co6, eo6, gb6, gl6, cl6, HG6⟩ := Kd.R_form HO_0.out (by omega); (first | cases eo6 | (injection eo6 with ea_ en_ ec_; (first | subst ea_ | (injection ea_ with ea_; subst ea_)); subst ec_; clear en_)); have GB6 := za gb6; have GG6 := za HG6; clear gb6 gl6 HG6; have HMgo6 := za (show (P0_ go6 ∨ w.heap.size ≤ go6) from (HO_0.out.1 _ rfl)); obtain ⟨ce6, hcl6, hM6, hcc6, hfr6⟩ := zbk HO_0.out z124 (x5_1 : Int) p6 q6; obtain rfl := k124_openM hM6; have hx6_0 : w9.cell? ⟨go6, (x5_1 : Int).toNat * 2, none⟩ = some (.string ((rd_T124 x0_1 x5_1).f0)) := hcc6 0 _ rfl; have hx6_1 : w9.cell? ⟨go6, (x5_1 : Int).toNat * 2 + 1, none⟩ = some (.int .i64 ((rd_T124 x0_1 x5_1).f1)) := hcc6 1 _ rfl; have hf6_0 : w9.frozen? ⟨go6, (x5_1 : Int).toNat * 2, none⟩ = false := hfr6 0; have hf6_1 : w9.frozen? ⟨go6, (x5_1 : Int).toNat * 2 + 1, none⟩ = false := hfr6 1; clear hcl6 hcc6 hfr6 hM6; replace p6 := eq_true p6; replace q6 := eq_true q6; have HX10 := za (show Kd.R k124 124 w9 w0.heap.size (fun k_ => (P0_ k_ ∨ w.heap.size ≤ k_)) (.slice (some ⟨go6, 0, none⟩) x0_1.length co8) x0_1 from zK246); obtain ⟨ce10, hcl10, hM10, hcc10, hfr10⟩ := zbk HX10.out z124 (x5_1 : Int) zO (by have h_ : (x5_1 : Int) < ((x0_1.length : Int) : Int) := zO; first | exact h_ | (have e_ := (Kd.R_reads' HO_0.out).1; omega) | simpa using h_); obtain rfl := k124_openM hM10; have HP10 := Kd.R_seg HX10.out (x5_1 : Int) zO (by have h_ : (x5_1 : Int) < ((x0_1.length : Int) : Int) := zO; first | exact h_ | (have e_ := (Kd.R_reads' HO_0.out).1; omega) | simpa using h_) (seg := [.string t341]) (j := 0) hcl10 hcc10 (show 1 ≤ 2 from by decide) (x' := (⟨t341, (rd_T124 x0_1 x5_1).f1⟩ : S124)) (k124_mkM _ _ _ (⟨t341, (rd_T124 x0_1 x5_1).f1⟩ : S124) ) (fun _ hk => hk); have hx10_0 := hcc10 0 _ rfl; (try simp only [show (k124).sz = 2 from rfl, Nat.mul_one, Nat.add_zero] at hx10_0); have hf10_0 := hfr10 0; (try simp only [show (k124).sz = 2 from rfl, Nat.mul_one, Nat.add_zero] at hf10_0); clear hcl10 hcc10 hfr10 hM10) | ((with_reducible refine gate_store (t := 9) (p := 17) rfl ?_); refine store_event (t := 9) (p := 17) (v := ?vo_w11) (w1 := (w9.setCell ⟨go6, (x5_1 : Int).toNat * 2, none⟩ (.string t341))) ?hg ?ho ?hn ?hr ?_; (case ho => rfl); (case hg => rfl); (case hn => rfl); (case hr => exact zH124); intro w11 hw; have hg : w9.grownBy w11 (some go6) := (by rw [hw]; exact HP10.2); have hp_ : Kd.R k124 124 w11 w0.heap.size (fun k_ => (P0_ k_ ∨ w.heap.size ≤ k_)) (.slice (some ⟨go6, 0, none⟩) x0_1.length co8) y342 := (by rw [hw, Ny342.out]; exact HP10.1); clear HP10; have n_ := zA_ (za (hp_)) (zA_ (za ((by rw [hw]; exact zf (HB.out) GB6.out : Below w0.heap.size w0 w11))) (za (zbh (S := (fun k_ => P0_ k_)) hg zK207 (fun k_ e_ => (HO_0.out.1 k_ e_))))); clear HO_0 HB HK; obtain ⟨HO_0, HB, HK⟩ := n_; clear hg hw hp_; have p7 : 0 ≤ (x5_1 : Int) := zO; have q7 : (x5_1 : Int) < ((x0_1.length : Int) : Int) := zO; obtain ⟨ce7, hcl7, hM7, hcc7, hfr7⟩ := zbk HO_0.out z124 (x5_1 : Int) p7 q7; obtain rfl := k124_openM hM7; have hx7_0 : w11.cell? ⟨go6, (x5_1 : Int).toNat * 2, none⟩ = some (.string ((rd_T124 y342 x5_1).f0)) := hcc7 0 _ rfl; have hx7_1 : w11.cell? ⟨go6, (x5_1 : Int).toNat * 2 + 1, none⟩ = some (.int .i64 ((rd_T124 y342 x5_1).f1)) := hcc7 1 _ rfl; have hf7_0 : w11.frozen? ⟨go6, (x5_1 : Int).toNat * 2, none⟩ = false := hfr7 0; have hf7_1 : w11.frozen? ⟨go6, (x5_1 : Int).toNat * 2 + 1, none⟩ = false := hfr7 1; clear hcl7 hcc7 hfr7 hM7; replace p7 := eq_true p7; replace q7 := eq_true q7; have HX12 := za (show Kd.R k124 124 w11 w0.heap.size (fun k_ => (P0_ k_ ∨ w.heap.size ≤ k_)) (.slice (some ⟨go6, 0, none⟩) x0_1.length co8) y342 from zK246); obtain ⟨ce12, hcl12, hM12, hcc12, hfr12⟩ := zbk HX12.out z124 (x5_1 : Int) zO (by have h_ : (x5_1 : Int) < ((x0_1.length : Int) : Int) := zO; first | exact h_ | (have e_ := (Kd.R_reads' HO_0.out).1; omega) | simpa using h_); obtain rfl := k124_openM hM12; have HP12 := Kd.R_seg HX12.out (x5_1 : Int) zO (by have h_ : (x5_1 : Int) < ((x0_1.length : Int) : Int) := zO; first | exact h_ | (have e_ := (Kd.R_reads' HO_0.out).1; omega) | simpa using h_) (seg := [.int .i64 (wrap64 (x1_1 + 1))]) (j := 1) hcl12 hcc12 (show 2 ≤ 2 from by decide) (x' := (⟨(rd_T124 y342 x5_1).f0, wrap64 (x1_1 + 1)⟩ : S124)) (k124_mkM _ _ _ (⟨(rd_T124 y342 x5_1).f0, wrap64 (x1_1 + 1)⟩ : S124) ) (fun _ hk => hk); have hx12_1 := hcc12 1 _ rfl; (try simp only [show (k124).sz = 2 from rfl, Nat.mul_one, Nat.add_zero] at hx12_1); have hf12_1 := hfr12 1; (try simp only [show (k124).sz = 2 from rfl, Nat.mul_one, Nat.add_zero] at hf12_1); clear hcl12 hcc12 hfr12 hM12) | ((with_reducible refine gate_store (t := 3) (p := 24) rfl ?_); refine store_event (t := 3) (p := 24) (v := ?vo_w13) (w1 := (w11.setCell ⟨go6, (x5_1 : Int).toNat * 2 + 1, none⟩ (.int .i64 (wrap64 (x1_1 + 1))))) ?hg ?ho ?hn ?hr ?_; (case ho => rfl); (case hg => rfl); (case hn => rfl); (case hr => exact zH124); intro w13 hw; have hg : w11.grownBy w13 (some go6) := (by rw [hw]; exact HP12.2); have hp_ : Kd.R k124 124 w13 w0.heap.size (fun k_ => (P0_ k_ ∨ w.heap.size ≤ k_)) (.slice (some ⟨go6, 0, none⟩) x0_1.length co8) y343 := (by rw [hw, Ny343.out]; exact HP12.1); clear HP12; have n_ := zA_ (za (hp_)) (zA_ (za ((by rw [hw]; exact zf (HB.out) GB6.out : Below w0.heap.size w0 w13))) (za (zbh (S := (fun k_ => P0_ k_)) hg zK207 (fun k_ e_ => (HO_0.out.1 k_ e_))))); clear HO_0 HB HK; obtain ⟨HO_0, HB, HK⟩ := n_; clear hg hw hp_))
   go_roundg k1
   case measure => have := HK1.out; omega
   case rel => exact ⟨(y343), (wrap64 ((wrap64 (x1_1 + 1)) + 1)), (wrap64 (x5_1 + 1)), zG105, zG105, H', ⟨zH127⟩, ⟨zH118⟩, ⟨zH89⟩, ⟨zH104⟩⟩
end Go.Proofs.Ytojncbpeeboooaa.V
