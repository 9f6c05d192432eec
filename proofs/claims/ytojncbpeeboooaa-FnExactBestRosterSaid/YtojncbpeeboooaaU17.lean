-- squeezed
-- made by pp.py (wip/tools) out of the translation; Lean checks it
import Derived.Test.YtojncbpeeboooaaU0
import Derived.Test.YtojncbpeeboooaaU16
namespace Go.Proofs.Ytojncbpeeboooaa.U
open Go.RowKit Go.Proofs.YtojncbpeeboooaaW.PrintWords Go.Proofs.YtojncbpeeboooaaW.PrintLast Go.Proofs.YtojncbpeeboooaaW.PrintMore
attribute [local go_sem] max2_int min2_int max_two min_two max_three min_three max_four min_four   -- for this text's walks alone
set_option linter.unusedVariables false
set_option linter.unusedSimpArgs false

abbrev b17A0 := zM 10 0
abbrev b17A1 := zM 10 1
abbrev b17A2 := zM 10 3
abbrev b17A3 := zM 10 7
abbrev b17A4 := zM 10 23
abbrev b17A5 := zM 10 55
abbrev b17A6 := zM 10 119
abbrev b17A7 := zM 10 127
abbrev b17A8 := zM 10 255
abbrev b17A9 := zM 10 511
abbrev b17A10 := zM 10 1023
/-! ### laws_eqWorkerS: function 50 -/
def laws_eqWorkerS.l0 : Nat → List (S72) → List (S72) → Int → Option (Bool)
 | 0, _, _, _ => none
 | k + 1, x0, x1, x5 => if x5 < (x0.length : Int) then (if 0 ≤ x5 then (if x5 < (x1.length : Int) then ((laws_eqWorker.f k ((rd_T72 x0 x5).f0) ((rd_T72 x0 x5).f1) ((rd_T72 x0 x5).f2) ((rd_T72 x0 x5).f3) ((rd_T72 x0 x5).f4) ((rd_T72 x1 x5).f0) ((rd_T72 x1 x5).f1) ((rd_T72 x1 x5).f2) ((rd_T72 x1 x5).f3) ((rd_T72 x1 x5).f4)).bind fun t313 => (if t313 = true then (laws_eqWorkerS.l0 k x0 x1 (wrap64 (x5 + 1))) else (some false))) else (none)) else (none)) else (some true)
def laws_eqWorkerS.f (k : Nat) (l0 : List (S72)) (l1 : List (S72)) : Option (Bool) := if (l0.length : Int) = (l1.length : Int) then (laws_eqWorkerS.l0 k l0 l1 0) else (some false)
theorem laws_eqWorkerS.mono_l : ∀ k, (∀ y0 y1 y2, LeO (laws_eqWorkerS.l0 k y0 y1 y2) (laws_eqWorkerS.l0 (k + 1) y0 y1 y2))
 | 0 => fun _ _ _ r h => by simp [laws_eqWorkerS.l0] at h
 | k + 1 => by
  have ih0 := laws_eqWorkerS.mono_l k
  ·intro y0 y1 y2
   unfold laws_eqWorkerS.l0
   repeat' first
   | (with_reducible exact ih0 _ _ _)
   | (with_reducible exact laws_eqWorker.mono _ _ _ _ _ _ _ _ _ _ _)
   | (with_reducible exact LeO.refl _)
   | (with_reducible exact LeO.none _)
   | (with_reducible refine LeO.ite ?_ ?_)
   | (with_reducible refine LeO.bind ?_ (fun _ => ?_))
   | exact ih0 _ _ _
   | exact laws_eqWorker.mono _ _ _ _ _ _ _ _ _ _ _
   | exact LeO.none _
   | refine LeO.ite ?_ ?_
   | refine LeO.bind ?_ (fun _ => ?_)
theorem laws_eqWorkerS.mono : ∀ a0 a1 k, LeO (laws_eqWorkerS.f k a0 a1) (laws_eqWorkerS.f (k + 1) a0 a1) := by
 intro a0 a1 k
 have ih0 := laws_eqWorkerS.mono_l k
 unfold laws_eqWorkerS.f
 repeat' first
   | (with_reducible exact ih0 _ _ _)
   | (with_reducible exact laws_eqWorker.mono _ _ _ _ _ _ _ _ _ _ _)
   | (with_reducible exact LeO.refl _)
   | (with_reducible exact LeO.none _)
   | (with_reducible refine LeO.ite ?_ ?_)
   | (with_reducible refine LeO.bind ?_ (fun _ => ?_))
   | exact ih0 _ _ _
   | exact laws_eqWorker.mono _ _ _ _ _ _ _ _ _ _ _
   | exact LeO.none _
   | refine LeO.ite ?_ ?_
   | refine LeO.bind ?_ (fun _ => ?_)
def laws_eqWorkerS.T6 : Bool × List (List Nat × List Nat) := (true, [([], []), ([], []), ([0, 1], [0, 1]), ([2], [2]), ([], []), ([], []), ([4, 5], [4, 5]), ([6], [6]), ([3, 7], [3, 7]), ([8], [8])])
def laws_eqWorkerS.B6 : List Nat := [0, 0, 3, 7, 0, 0, 48, 112, 255, 511]
theorem laws_eqWorkerS.tab6 : rtab .any (opsOf Try.f50 6) = laws_eqWorkerS.T6 := by kernel_rfl
theorem laws_eqWorkerS.bits6 : waitsOk laws_eqWorkerS.T6.2 laws_eqWorkerS.B6 = true := by kernel_rfl
set_option maxHeartbeats 64000000 in
set_option maxRecDepth 100000 in
theorem laws_eqWorkerS.calls (k : Nat) (A0 : Option Addr) (c0 : Nat) (l0 : List (S72)) (A1 : Option Addr) (c1 : Nat) (l1 : List (S72)) (r : Bool) (w : World) (hr0 : Kd.C k72 w A0 l0.length l0) (hc0 : l0.length ≤ c0) (hr1 : Kd.C k72 w A1 l1.length l1) (hc1 : l1.length ≤ c1) (h : laws_eqWorkerS.f k l0 l1 = some r) :
  Calls Try.prog 50 #[.slice A0 l0.length c0, .slice A1 l1.length c1] w fun e w' => e = .returned (.bool r) ∧ Below w.heap.size w w' := by
 have hu72 := Try.underlying72
 obtain ⟨HR0, HC0, HR1, HC1, HB⟩ := zD5 hr0 hc0 hr1 hc1 (Below.refl w.heap.size w)
 clear hr0 hc0 hr1 hc1
 have H : (if (l0.length : Int) = (l1.length : Int) then (laws_eqWorkerS.l0 k l0 l1 0) else (some false)) = some r := h
 clear h
 by_cases c3 : (l0.length : Int) = (l1.length : Int)
 rotate_left
 ·rw [if_neg c3] at H
  have c3b0 : ((l0.length : Int) == (l1.length : Int)) = false := beq_eq_false_iff_ne.mpr c3
  have c3b1 : ((l0.length : Int) != (l1.length : Int)) = true := bne_iff_ne.mpr c3
  have c3b2 : (l0.length == l1.length) = false := by first | simpa using c3 | (simp at c3 ⊢; omega)
  obtain rfl := Option.some.inj H
  go_enter Try.func50, Try.ntmps50
  go_wp2
  go_ret
  exact zH34

 rw [if_pos c3] at H
 have c3b0 : ((l0.length : Int) == (l1.length : Int)) = true := beq_iff_eq.mpr c3
 have c3b1 : ((l0.length : Int) != (l1.length : Int)) = false := bne_eq_false_iff_eq.mpr c3
 have c3b2 : (l0.length == l1.length) = true := by first | simpa using c3 | (simp at c3 ⊢; omega)
 clear c3
 have H' := zb H
 clear H
 go_enter Try.func50, Try.ntmps50
 go_wp2
 go_loopg [5] k (fun kq v5 w' => ∃ (x5_1 : Int), v5 = .int .i64 x5_1 ∧ Aside0 (laws_eqWorkerS.l0 kq l0 l1 x5_1 = some r) ∧ Aside0 (kq ≤ k) ∧ Aside0 (Below w.heap.size w w'))
 case atStart => exact ⟨(0), zG100, H', ⟨Nat.le_refl _⟩, ⟨zH91⟩⟩
 case round =>
  clear H'
  try clear c1
  try clear c3
  try clear c3b0
  try clear c3b1
  try clear c3b2
  obtain ⟨x5_1, rfl, HA, HK1, HB⟩ := hrel
  cases gk with
  | zero => exact absurd HA.out (by simp [laws_eqWorkerS.l0])
  | succ k1 =>
   have H := HA.out
   clear HA
   simp only [laws_eqWorkerS.l0] at H
   by_cases c4 : x5_1 < (l0.length : Int)
   rotate_left
   ·rw [if_neg c4] at H
    have c4b0 := decide_eq_false c4
    clear c4
    obtain rfl := Option.some.inj H
    go_wp2
    go_ret
    exact zH34
   rw [if_pos c4] at H
   have c4b0 := decide_eq_true c4
   clear c4
   by_cases c5 : 0 ≤ x5_1
   rotate_left
   ·rw [if_neg c5] at H
    exact absurd H (by simp)
   rw [if_pos c5] at H
   have c5b0 := decide_eq_true c5
   clear c5
   by_cases c6 : x5_1 < (l1.length : Int)
   rotate_left
   ·rw [if_neg c6] at H
    exact absurd H (by simp)
   rw [if_pos c6] at H
   have c6b0 := decide_eq_true c6
   clear c6
   replace H := Option.bind_eq_some_iff.mp H
   obtain ⟨t313, A70, H⟩ := H
   replace H : (if t313 = true then (laws_eqWorkerS.l0 k1 l0 l1 (wrap64 (x5_1 + 1))) else (some false)) = some r := H
   have A7 := zb A70
   clear A70
   by_cases c8 : t313 = true
   rotate_left
   ·replace c8 := Bool.eq_false_iff.mpr c8
    subst c8
    have H1 : (some false) = some r := by rw [if_neg (show ¬ (false = true) by decide)] at H; exact H
    clear H
    have H := H1
    clear H1
    obtain rfl := Option.some.inj H
    try go_wp2
    have n0_ := zb (zd HB.out)
    clear HB
    have HB := n0_
    clear n0_
    have p311 : 0 ≤ (x5_1 : Int) := zO
    have q311 : x5_1 < (l0.length : Int) := zO
    obtain ⟨ad311, A311_4, c311_4, e311, hx311_0, hx311_1, hx311_2, hx311_3, hx311_4, hl311_4, hi311_4⟩ := at_T72 HR0.out x5_1 p311 q311
    have hw311_4 := hx311_4
    have hw311_3 := hx311_3
    have hw311_2 := hx311_2
    have hw311_1 := hx311_1
    have hw311_0 := hx311_0
    cases e311
    replace hx311_0 := (HB.out.cell (za w _ hx311_0)).trans hx311_0
    replace hx311_1 := (HB.out.cell (za w _ hx311_1)).trans hx311_1
    replace hx311_2 := (HB.out.cell (za w _ hx311_2)).trans hx311_2
    replace hx311_3 := (HB.out.cell (za w _ hx311_3)).trans hx311_3
    replace hx311_4 := (HB.out.cell (za w _ hx311_4)).trans hx311_4
    obtain ⟨HR311_4, HC311_4⟩ := zD2 hi311_4 hl311_4
    clear hi311_4 hl311_4
    replace p311 := eq_true p311
    replace q311 := eq_true q311
    have p312 : 0 ≤ (x5_1 : Int) := zO
    have q312 : x5_1 < (l1.length : Int) := zO
    obtain ⟨ad312, A312_4, c312_4, e312, hx312_0, hx312_1, hx312_2, hx312_3, hx312_4, hl312_4, hi312_4⟩ := at_T72 HR1.out x5_1 p312 q312
    have hw312_4 := hx312_4
    have hw312_3 := hx312_3
    have hw312_2 := hx312_2
    have hw312_1 := hx312_1
    have hw312_0 := hx312_0
    cases e312
    replace hx312_0 := (HB.out.cell (za w _ hx312_0)).trans hx312_0
    replace hx312_1 := (HB.out.cell (za w _ hx312_1)).trans hx312_1
    replace hx312_2 := (HB.out.cell (za w _ hx312_2)).trans hx312_2
    replace hx312_3 := (HB.out.cell (za w _ hx312_3)).trans hx312_3
    replace hx312_4 := (HB.out.cell (za w _ hx312_4)).trans hx312_4
    obtain ⟨HR312_4, HC312_4⟩ := zD2 hi312_4 hl312_4
    clear hi312_4 hl312_4
    replace p312 := eq_true p312
    replace q312 := eq_true q312
    refine start_ (n := 10) (S := fun w' => w'.cell? (ad311.add ((x5_1).toNat * 5)) = some (.string ((rd_T72 l0 x5_1).f0)) ∧ w'.cell? ⟨(ad311.add ((x5_1).toNat * 5)).block, (ad311.add ((x5_1).toNat * 5)).off + 1, none⟩ = some (.int .i64 ((rd_T72 l0 x5_1).f1)) ∧ w'.cell? ⟨(ad311.add ((x5_1).toNat * 5)).block, (ad311.add ((x5_1).toNat * 5)).off + 2, none⟩ = some (.int .i64 ((rd_T72 l0 x5_1).f2)) ∧ w'.cell? ⟨(ad311.add ((x5_1).toNat * 5)).block, (ad311.add ((x5_1).toNat * 5)).off + 3, none⟩ = some (.int .i64 ((rd_T72 l0 x5_1).f3)) ∧ w'.cell? ⟨(ad311.add ((x5_1).toNat * 5)).block, (ad311.add ((x5_1).toNat * 5)).off + 4, none⟩ = some (.slice A311_4 ((rd_T72 l0 x5_1).f4).length c311_4) ∧ w'.cell? (ad312.add ((x5_1).toNat * 5)) = some (.string ((rd_T72 l1 x5_1).f0)) ∧ w'.cell? ⟨(ad312.add ((x5_1).toNat * 5)).block, (ad312.add ((x5_1).toNat * 5)).off + 1, none⟩ = some (.int .i64 ((rd_T72 l1 x5_1).f1)) ∧ w'.cell? ⟨(ad312.add ((x5_1).toNat * 5)).block, (ad312.add ((x5_1).toNat * 5)).off + 2, none⟩ = some (.int .i64 ((rd_T72 l1 x5_1).f2)) ∧ w'.cell? ⟨(ad312.add ((x5_1).toNat * 5)).block, (ad312.add ((x5_1).toNat * 5)).off + 3, none⟩ = some (.int .i64 ((rd_T72 l1 x5_1).f3)) ∧ w'.cell? ⟨(ad312.add ((x5_1).toNat * 5)).block, (ad312.add ((x5_1).toNat * 5)).off + 4, none⟩ = some (.slice A312_4 ((rd_T72 l1 x5_1).f4).length c312_4)) (ds := []) b17A0 zG101 rfl rfl ⟨((HB.out.cell (za w _ hw311_0)).trans hw311_0), ((HB.out.cell (za w _ hw311_1)).trans hw311_1), ((HB.out.cell (za w _ hw311_2)).trans hw311_2), ((HB.out.cell (za w _ hw311_3)).trans hw311_3), ((HB.out.cell (za w _ hw311_4)).trans hw311_4), ((HB.out.cell (za w _ hw312_0)).trans hw312_0), ((HB.out.cell (za w _ hw312_1)).trans hw312_1), ((HB.out.cell (za w _ hw312_2)).trans hw312_2), ((HB.out.cell (za w _ hw312_3)).trans hw312_3), ((HB.out.cell (za w _ hw312_4)).trans hw312_4)⟩ (fun hHeld => ?_); refine with_tabW laws_eqWorkerS.tab6 laws_eqWorkerS.bits6 (fun HT_ HW_ => ?_)
    generalize wr.drew = w11 at HB HR311_4 HR312_4 hx311_0 hx311_1 hx311_2 hx311_3 hx311_4 hx312_0 hx312_1 hx312_2 hx312_3 hx312_4 hHeld ⊢
    refine zP 0 17 b17A1 HT_ ?_
    refine zP 1 18 b17A2 HT_ ?_
    refine zP 2 19 b17A3 HT_ ?_
    refine zP 4 21 b17A4 HT_ ?_
    refine zP 5 22 b17A5 HT_ ?_
    refine zP 6 23 b17A6 HT_ ?_
    refine zQ 3 20 b17A7 HT_ HW_ hHeld ?_
    refine zQ 7 24 b17A8 HT_ HW_ hHeld ?_
    refine one_ (i := 8) (N := some 25) b17A9 rfl rfl (one_of HT_.out zG101) (by decide) (fun K hK => ?_)
    refine goes_ Try.func114 zG101 rfl #[.agg #[.string ((rd_T72 l0 x5_1).f0), .int .i64 ((rd_T72 l0 x5_1).f1), .int .i64 ((rd_T72 l0 x5_1).f2), .int .i64 ((rd_T72 l0 x5_1).f3), .slice A311_4 ((rd_T72 l0 x5_1).f4).length c311_4], .agg #[.string ((rd_T72 l1 x5_1).f0), .int .i64 ((rd_T72 l1 x5_1).f1), .int .i64 ((rd_T72 l1 x5_1).f2), .int .i64 ((rd_T72 l1 x5_1).f3), .slice A312_4 ((rd_T72 l1 x5_1).f4).length c312_4]] (by rfl) rfl rfl zG67 ?_
    with_reducible refine (laws_eqWorker.calls k1 ((rd_T72 l0 x5_1).f0) ((rd_T72 l0 x5_1).f1) ((rd_T72 l0 x5_1).f2) ((rd_T72 l0 x5_1).f3) _ _ ((rd_T72 l0 x5_1).f4) ((rd_T72 l1 x5_1).f0) ((rd_T72 l1 x5_1).f1) ((rd_T72 l1 x5_1).f2) ((rd_T72 l1 x5_1).f3) _ _ ((rd_T72 l1 x5_1).f4) false _ ?side1 ?side2 ?side3 ?side4 A7.out).mono ?_
    (case side1 => exact zH51)
    (case side2 => exact HC311_4.out)
    (case side3 => exact zH52)
    (case side4 => exact HC312_4.out)
    rintro e w12 ⟨rfl, hb⟩
    refine ⟨_, rfl, ?_⟩
    have n0_ := zb (zp zG77 hb)
    clear HB
    have HB := n0_
    clear n0_
    (try clear hb)
    (try clear hb2)
    (try clear hk)
    (try clear hi)
    refine hK.out _ _ ⟨((HB.out.cell (za w _ hw311_0)).trans hw311_0), ((HB.out.cell (za w _ hw311_1)).trans hw311_1), ((HB.out.cell (za w _ hw311_2)).trans hw311_2), ((HB.out.cell (za w _ hw311_3)).trans hw311_3), ((HB.out.cell (za w _ hw311_4)).trans hw311_4), ((HB.out.cell (za w _ hw312_0)).trans hw312_0), ((HB.out.cell (za w _ hw312_1)).trans hw312_1), ((HB.out.cell (za w _ hw312_2)).trans hw312_2), ((HB.out.cell (za w _ hw312_3)).trans hw312_3), ((HB.out.cell (za w _ hw312_4)).trans hw312_4)⟩ (fun hHeld => ?_)
    clear hK K
    refine norm_ (a' := ?_) ?_ ?_
    rotate_left
    ·show Act.put _ (some 25) _ = _
     simp only [Act.put, List.setIfInBounds_toArray, List.set_cons_zero, List.set_cons_succ, i64_w, i32_w]
     rfl
    refine zP 9 26 b17A10 HT_ ?_
    refine done_ (done_of HT_.out zG101) ?_
    try go_wp2
    go_ret
    exact zH34
   subst c8
   have H1 : (laws_eqWorkerS.l0 k1 l0 l1 (wrap64 (x5_1 + 1))) = some r := by rw [if_pos rfl] at H; exact H
   clear H
   have H := H1
   clear H1
   have H' := zb H
   clear H
   try go_wp2
   have n0_ := zb (zd HB.out)
   clear HB
   have HB := n0_
   clear n0_
   have p311 : 0 ≤ (x5_1 : Int) := zO
   have q311 : x5_1 < (l0.length : Int) := zO
   obtain ⟨ad311, A311_4, c311_4, e311, hx311_0, hx311_1, hx311_2, hx311_3, hx311_4, hl311_4, hi311_4⟩ := at_T72 HR0.out x5_1 p311 q311
   have hw311_4 := hx311_4
   have hw311_3 := hx311_3
   have hw311_2 := hx311_2
   have hw311_1 := hx311_1
   have hw311_0 := hx311_0
   cases e311
   replace hx311_0 := (HB.out.cell (za w _ hx311_0)).trans hx311_0
   replace hx311_1 := (HB.out.cell (za w _ hx311_1)).trans hx311_1
   replace hx311_2 := (HB.out.cell (za w _ hx311_2)).trans hx311_2
   replace hx311_3 := (HB.out.cell (za w _ hx311_3)).trans hx311_3
   replace hx311_4 := (HB.out.cell (za w _ hx311_4)).trans hx311_4
   obtain ⟨HR311_4, HC311_4⟩ := zD2 hi311_4 hl311_4
   clear hi311_4 hl311_4
   replace p311 := eq_true p311
   replace q311 := eq_true q311
   have p312 : 0 ≤ (x5_1 : Int) := zO
   have q312 : x5_1 < (l1.length : Int) := zO
   obtain ⟨ad312, A312_4, c312_4, e312, hx312_0, hx312_1, hx312_2, hx312_3, hx312_4, hl312_4, hi312_4⟩ := at_T72 HR1.out x5_1 p312 q312
   have hw312_4 := hx312_4
   have hw312_3 := hx312_3
   have hw312_2 := hx312_2
   have hw312_1 := hx312_1
   have hw312_0 := hx312_0
   cases e312
   replace hx312_0 := (HB.out.cell (za w _ hx312_0)).trans hx312_0
   replace hx312_1 := (HB.out.cell (za w _ hx312_1)).trans hx312_1
   replace hx312_2 := (HB.out.cell (za w _ hx312_2)).trans hx312_2
   replace hx312_3 := (HB.out.cell (za w _ hx312_3)).trans hx312_3
   replace hx312_4 := (HB.out.cell (za w _ hx312_4)).trans hx312_4
   obtain ⟨HR312_4, HC312_4⟩ := zD2 hi312_4 hl312_4
   clear hi312_4 hl312_4
   replace p312 := eq_true p312
   replace q312 := eq_true q312
   refine start_ (n := 10) (S := fun w' => w'.cell? (ad311.add ((x5_1).toNat * 5)) = some (.string ((rd_T72 l0 x5_1).f0)) ∧ w'.cell? ⟨(ad311.add ((x5_1).toNat * 5)).block, (ad311.add ((x5_1).toNat * 5)).off + 1, none⟩ = some (.int .i64 ((rd_T72 l0 x5_1).f1)) ∧ w'.cell? ⟨(ad311.add ((x5_1).toNat * 5)).block, (ad311.add ((x5_1).toNat * 5)).off + 2, none⟩ = some (.int .i64 ((rd_T72 l0 x5_1).f2)) ∧ w'.cell? ⟨(ad311.add ((x5_1).toNat * 5)).block, (ad311.add ((x5_1).toNat * 5)).off + 3, none⟩ = some (.int .i64 ((rd_T72 l0 x5_1).f3)) ∧ w'.cell? ⟨(ad311.add ((x5_1).toNat * 5)).block, (ad311.add ((x5_1).toNat * 5)).off + 4, none⟩ = some (.slice A311_4 ((rd_T72 l0 x5_1).f4).length c311_4) ∧ w'.cell? (ad312.add ((x5_1).toNat * 5)) = some (.string ((rd_T72 l1 x5_1).f0)) ∧ w'.cell? ⟨(ad312.add ((x5_1).toNat * 5)).block, (ad312.add ((x5_1).toNat * 5)).off + 1, none⟩ = some (.int .i64 ((rd_T72 l1 x5_1).f1)) ∧ w'.cell? ⟨(ad312.add ((x5_1).toNat * 5)).block, (ad312.add ((x5_1).toNat * 5)).off + 2, none⟩ = some (.int .i64 ((rd_T72 l1 x5_1).f2)) ∧ w'.cell? ⟨(ad312.add ((x5_1).toNat * 5)).block, (ad312.add ((x5_1).toNat * 5)).off + 3, none⟩ = some (.int .i64 ((rd_T72 l1 x5_1).f3)) ∧ w'.cell? ⟨(ad312.add ((x5_1).toNat * 5)).block, (ad312.add ((x5_1).toNat * 5)).off + 4, none⟩ = some (.slice A312_4 ((rd_T72 l1 x5_1).f4).length c312_4)) (ds := []) b17A0 zG101 rfl rfl ⟨((HB.out.cell (za w _ hw311_0)).trans hw311_0), ((HB.out.cell (za w _ hw311_1)).trans hw311_1), ((HB.out.cell (za w _ hw311_2)).trans hw311_2), ((HB.out.cell (za w _ hw311_3)).trans hw311_3), ((HB.out.cell (za w _ hw311_4)).trans hw311_4), ((HB.out.cell (za w _ hw312_0)).trans hw312_0), ((HB.out.cell (za w _ hw312_1)).trans hw312_1), ((HB.out.cell (za w _ hw312_2)).trans hw312_2), ((HB.out.cell (za w _ hw312_3)).trans hw312_3), ((HB.out.cell (za w _ hw312_4)).trans hw312_4)⟩ (fun hHeld => ?_); refine with_tabW laws_eqWorkerS.tab6 laws_eqWorkerS.bits6 (fun HT_ HW_ => ?_)
   generalize wr.drew = w9 at HB HR311_4 HR312_4 hx311_0 hx311_1 hx311_2 hx311_3 hx311_4 hx312_0 hx312_1 hx312_2 hx312_3 hx312_4 hHeld ⊢
   refine zP 0 17 b17A1 HT_ ?_
   refine zP 1 18 b17A2 HT_ ?_
   refine zP 2 19 b17A3 HT_ ?_
   refine zP 4 21 b17A4 HT_ ?_
   refine zP 5 22 b17A5 HT_ ?_
   refine zP 6 23 b17A6 HT_ ?_
   refine zQ 3 20 b17A7 HT_ HW_ hHeld ?_
   refine zQ 7 24 b17A8 HT_ HW_ hHeld ?_
   refine one_ (i := 8) (N := some 25) b17A9 rfl rfl (one_of HT_.out zG101) (by decide) (fun K hK => ?_)
   refine goes_ Try.func114 zG101 rfl #[.agg #[.string ((rd_T72 l0 x5_1).f0), .int .i64 ((rd_T72 l0 x5_1).f1), .int .i64 ((rd_T72 l0 x5_1).f2), .int .i64 ((rd_T72 l0 x5_1).f3), .slice A311_4 ((rd_T72 l0 x5_1).f4).length c311_4], .agg #[.string ((rd_T72 l1 x5_1).f0), .int .i64 ((rd_T72 l1 x5_1).f1), .int .i64 ((rd_T72 l1 x5_1).f2), .int .i64 ((rd_T72 l1 x5_1).f3), .slice A312_4 ((rd_T72 l1 x5_1).f4).length c312_4]] (by rfl) rfl rfl zG67 ?_
   with_reducible refine (laws_eqWorker.calls k1 ((rd_T72 l0 x5_1).f0) ((rd_T72 l0 x5_1).f1) ((rd_T72 l0 x5_1).f2) ((rd_T72 l0 x5_1).f3) _ _ ((rd_T72 l0 x5_1).f4) ((rd_T72 l1 x5_1).f0) ((rd_T72 l1 x5_1).f1) ((rd_T72 l1 x5_1).f2) ((rd_T72 l1 x5_1).f3) _ _ ((rd_T72 l1 x5_1).f4) true _ ?side1 ?side2 ?side3 ?side4 A7.out).mono ?_
   (case side1 => exact zH51)
   (case side2 => exact HC311_4.out)
   (case side3 => exact zH52)
   (case side4 => exact HC312_4.out)
   rintro e w10 ⟨rfl, hb⟩
   refine ⟨_, rfl, ?_⟩
   have n0_ := zb (zp zG77 hb)
   clear HB
   have HB := n0_
   clear n0_
   (try clear hb)
   (try clear hb2)
   (try clear hk)
   (try clear hi)
   refine hK.out _ _ ⟨((HB.out.cell (za w _ hw311_0)).trans hw311_0), ((HB.out.cell (za w _ hw311_1)).trans hw311_1), ((HB.out.cell (za w _ hw311_2)).trans hw311_2), ((HB.out.cell (za w _ hw311_3)).trans hw311_3), ((HB.out.cell (za w _ hw311_4)).trans hw311_4), ((HB.out.cell (za w _ hw312_0)).trans hw312_0), ((HB.out.cell (za w _ hw312_1)).trans hw312_1), ((HB.out.cell (za w _ hw312_2)).trans hw312_2), ((HB.out.cell (za w _ hw312_3)).trans hw312_3), ((HB.out.cell (za w _ hw312_4)).trans hw312_4)⟩ (fun hHeld => ?_)
   clear hK K
   refine norm_ (a' := ?_) ?_ ?_
   rotate_left
   ·show Act.put _ (some 25) _ = _
    simp only [Act.put, List.setIfInBounds_toArray, List.set_cons_zero, List.set_cons_succ, i64_w, i32_w]
    rfl
   refine zP 9 26 b17A10 HT_ ?_
   refine done_ (done_of HT_.out zG101) ?_
   try go_wp2
   go_roundg k1
   case measure => have := HK1.out; omega
   case rel => exact ⟨(wrap64 (x5_1 + 1)), zG100, H', ⟨zH120⟩, ⟨zH91⟩⟩
/-! ### laws_markText: function 108 -/
def laws_markText.l0 : Nat → Int → ByteArray → Option (ByteArray)
 | 0, _, _ => none
 | k + 1, x0, x3 => if x0 > 0 then ((some (([(wrap64 (48 + (Int.tmod x0 10))) % 256] : List Int) : List Int)).bind fun y314 => (if (strOfNums y314).size + x3.size ≤ 9223372036854775807 then (laws_markText.l0 k (wrap64 (Int.tdiv x0 10)) ((strOfNums y314) ++ x3)) else (none))) else (if 1 + x3.size ≤ 9223372036854775807 then (some ((⟨#[109]⟩ : ByteArray) ++ x3)) else (none))
def laws_markText.f (k : Nat) (a0 : Int) : Option (ByteArray) := if a0 ≤ 0 then (some (⟨#[109, 48]⟩ : ByteArray)) else (laws_markText.l0 k a0 (⟨#[]⟩ : ByteArray))
theorem laws_markText.mono_l : ∀ k, (∀ y0 y1, LeO (laws_markText.l0 k y0 y1) (laws_markText.l0 (k + 1) y0 y1))
 | 0 => fun _ _ r h => by simp [laws_markText.l0] at h
 | k + 1 => by
  have ih0 := laws_markText.mono_l k
  ·intro y0 y1
   unfold laws_markText.l0
   repeat' first
   | (with_reducible exact ih0 _ _)
   | (with_reducible exact LeO.refl _)
   | (with_reducible exact LeO.none _)
   | (with_reducible refine LeO.ite ?_ ?_)
   | (with_reducible refine LeO.bind ?_ (fun _ => ?_))
   | exact ih0 _ _
   | exact LeO.none _
   | refine LeO.ite ?_ ?_
   | refine LeO.bind ?_ (fun _ => ?_)
theorem laws_markText.mono : ∀ a0 k, LeO (laws_markText.f k a0) (laws_markText.f (k + 1) a0) := by
 intro a0 k
 have ih0 := laws_markText.mono_l k
 unfold laws_markText.f
 repeat' first
   | (with_reducible exact ih0 _ _)
   | (with_reducible exact LeO.refl _)
   | (with_reducible exact LeO.none _)
   | (with_reducible refine LeO.ite ?_ ?_)
   | (with_reducible refine LeO.bind ?_ (fun _ => ?_))
   | exact ih0 _ _
   | exact LeO.none _
   | refine LeO.ite ?_ ?_
   | refine LeO.bind ?_ (fun _ => ?_)
set_option maxHeartbeats 64000000 in
set_option maxRecDepth 100000 in
theorem laws_markText.calls (k : Nat) (a0 : Int) (r : ByteArray) (w : World) (h : laws_markText.f k a0 = some r) :
  Calls Try.prog 108 #[.int .i64 a0] w fun e w' => e = .returned (.string r) ∧ Below w.heap.size w w' := by
 have HB := zb (Below.refl w.heap.size w)
 have H : (if a0 ≤ 0 then (some (⟨#[109, 48]⟩ : ByteArray)) else (laws_markText.l0 k a0 (⟨#[]⟩ : ByteArray))) = some r := h
 clear h
 by_cases c2 : a0 ≤ 0
 ·rw [if_pos c2] at H
  have c2b0 := decide_eq_true c2
  clear c2
  obtain rfl := Option.some.inj H
  go_enter Try.func108, Try.ntmps108
  go_wp2
  go_ret
  exact zH34
 rw [if_neg c2] at H
 have c2b0 := decide_eq_false c2
 clear c2
 have H' := zb H
 clear H
 go_enter Try.func108, Try.ntmps108
 go_wp2
 go_loopg [0, 3] k (fun kq v0 v3 w' => ∃ (x0_1 : Int) (x3_1 : ByteArray), v0 = .int .i64 x0_1 ∧ v3 = .string x3_1 ∧ Aside0 (laws_markText.l0 kq x0_1 x3_1 = some r) ∧ Aside0 (kq ≤ k) ∧ Aside0 (Below w.heap.size w w'))
 case atStart => exact ⟨(a0), ((⟨#[]⟩ : ByteArray)), zG100, zG100, H', ⟨Nat.le_refl _⟩, ⟨zH91⟩⟩
 case round =>
  clear H'
  try clear c2
  try clear c2b0
  obtain ⟨x0_1, x3_1, rfl, rfl, HA, HK1, HB⟩ := hrel
  cases gk with
  | zero => exact absurd HA.out (by simp [laws_markText.l0])
  | succ k1 =>
   have H := HA.out
   clear HA
   simp only [laws_markText.l0] at H
   by_cases c3 : x0_1 > 0
   rotate_left
   ·rw [if_neg c3] at H
    have c3b0 : decide (0 < x0_1) = false := decide_eq_false c3
    clear c3
    by_cases c8 : 1 + x3_1.size ≤ 9223372036854775807
    rotate_left
    ·rw [if_neg c8] at H
     exact absurd H (by simp)

    rw [if_pos c8] at H
    have c8b0 := eq_true c8
    have c8b1 := decide_eq_true c8
    try have c8b2 : (9223372036854775807 < 1 + x3_1.size) = False := eq_false (Nat.not_lt.2 c8)
    obtain rfl := Option.some.inj H
    go_wp2
    go_ret
    exact zH34
   rw [if_pos c3] at H
   have c3b0 : decide (0 < x0_1) = true := decide_eq_true c3
   clear c3
   obtain ⟨y314, hy314⟩ : ∃ y_ : List Int, y_ = (([(wrap64 (48 + (Int.tmod x0_1 10))) % 256] : List Int)) := ⟨_, rfl⟩
   replace H : (if (strOfNums y314).size + x3_1.size ≤ 9223372036854775807 then (laws_markText.l0 k1 (wrap64 (Int.tdiv x0_1 10)) ((strOfNums y314) ++ x3_1)) else (none)) = some r := by first | (rw [hy314]; with_reducible exact H) | (have H2_ := (Option.bind_some _ _).symm.trans H; rw [hy314]; with_reducible exact H2_) | (have H2_ := (Option.bind_some _ _).symm.trans H; with_reducible exact H2_) | with_reducible exact H | (rw [hy314]; exact H) | exact H
   have Ny314 := zb hy314
   clear hy314
   by_cases c4 : (strOfNums y314).size + x3_1.size ≤ 9223372036854775807
   rotate_left
   ·rw [if_neg c4] at H
    exact absurd H (by simp)
   rw [if_pos c4] at H
   have c4b0 := eq_true c4
   have c4b1 := decide_eq_true c4
   try have c4b2 : (9223372036854775807 < (strOfNums y314).size + x3_1.size) = False := eq_false (Nat.not_lt.2 c4)
   have H' := zb H
   clear H
   go_wp2_with (first | ((with_reducible refine gate_dst (N := 12) rfl ?_); refine zbh (Kd.int .u8) _ 5 ?hg (N := 12) ?hd (xs := ([(wrap64 (48 + (Int.tmod x0_1 10))) % 256] : List Int)) (inner := [.int .u8 ((wrap64 (48 + (Int.tmod x0_1 10))) % 256)]) (ok := fun _ => True) (okp := fun _ => True) ?hr ?hp (fun _ hk => hk) trivial (Below.refl _ _) (Nat.le_refl _) (by simp) ?_; (case hd => rfl); (case hg => rfl); (case hr => exact zH117); (case hp => exact (Reps.one (show Kd.M (Kd.int .u8) _ _ _ ((wrap64 (48 + (Int.tmod x0_1 10))) % 256) [.int .u8 ((wrap64 (48 + (Int.tmod x0_1 10))) % 256)] from rfl) (Reps.none _ _))); intro v315 w5 ho6 hb hg_ hnew_; clear hg_ hnew_; (first | rw [← Ny314.out] at ho6 | (simp only [Int.reduceToNat] at ho6; rw [← Ny314.out] at ho6)); have n_ := zA_ (zb (zah ho6 (zo zG77))) (zb (zp zG77 hb)); clear HB; obtain ⟨HO316, HB⟩ := n_; clear hb ho6; have hcv7 := own_string (P := Try.prog) Try.underlying22 Try.underlying5 Try.underlying9 (Kd.own_of_R HO316.out)))
   go_roundg k1
   case measure => have := HK1.out; omega
   case rel => exact ⟨(wrap64 (Int.tdiv x0_1 10)), ((strOfNums y314) ++ x3_1), zG100, zG100, H', ⟨zH120⟩, ⟨zH91⟩⟩
/-! ### laws_markShiftS: function 51 -/
def laws_markShiftS.l0 : Nat → List (S139) → Int → Int → Option (Int × (List (S139)))
 | 0, _, _, _ => none
 | k + 1, x0, x1, x5 => if x5 < (x0.length : Int) then (if 0 ≤ x5 then ((some (x0.set (x5 : Int).toNat (⟨x1, (rd_T139 x0 x5).f1, (rd_T139 x0 x5).f2⟩ : S139) : List (S139))).bind fun y317 => ((some (y317.set (x5 : Int).toNat (⟨(rd_T139 y317 x5).f0, wrap64 (x1 + 1), (rd_T139 y317 x5).f2⟩ : S139) : List (S139))).bind fun y318 => ((laws_markText.f k (wrap64 ((wrap64 (x1 + 1)) + 1))).bind fun t319 => (laws_markShiftS.l0 k (y318.set (x5 : Int).toNat (⟨(rd_T139 y318 x5).f0, (rd_T139 y318 x5).f1, t319⟩ : S139)) (wrap64 ((wrap64 ((wrap64 (x1 + 1)) + 1)) + 1)) (wrap64 (x5 + 1)))))) else (none)) else (some (x1, x0))
def laws_markShiftS.f (k : Nat) (l0 : List (S139)) (a1 : Int) : Option (Int × (List (S139))) := laws_markShiftS.l0 k l0 a1 0
theorem laws_markShiftS.mono_l : ∀ k, (∀ y0 y1 y2, LeO (laws_markShiftS.l0 k y0 y1 y2) (laws_markShiftS.l0 (k + 1) y0 y1 y2))
 | 0 => fun _ _ _ r h => by simp [laws_markShiftS.l0] at h
 | k + 1 => by
  have ih0 := laws_markShiftS.mono_l k
  ·intro y0 y1 y2
   unfold laws_markShiftS.l0
   repeat' first
   | (with_reducible exact ih0 _ _ _)
   | (with_reducible exact laws_markText.mono _ _)
   | (with_reducible exact LeO.refl _)
   | (with_reducible exact LeO.none _)
   | (with_reducible refine LeO.ite ?_ ?_)
   | (with_reducible refine LeO.bind ?_ (fun _ => ?_))
   | exact ih0 _ _ _
   | exact laws_markText.mono _ _
   | exact LeO.none _
   | refine LeO.ite ?_ ?_
   | refine LeO.bind ?_ (fun _ => ?_)
theorem laws_markShiftS.mono : ∀ a0 a1 k, LeO (laws_markShiftS.f k a0 a1) (laws_markShiftS.f (k + 1) a0 a1) := by
 intro a0 a1 k
 have ih0 := laws_markShiftS.mono_l k
 unfold laws_markShiftS.f
 repeat' first
   | (with_reducible exact ih0 _ _ _)
   | (with_reducible exact laws_markText.mono _ _)
   | (with_reducible exact LeO.refl _)
   | (with_reducible exact LeO.none _)
   | (with_reducible refine LeO.ite ?_ ?_)
   | (with_reducible refine LeO.bind ?_ (fun _ => ?_))
   | exact ih0 _ _ _
   | exact laws_markText.mono _ _
   | exact LeO.none _
   | refine LeO.ite ?_ ?_
   | refine LeO.bind ?_ (fun _ => ?_)
set_option maxHeartbeats 64000000 in
set_option maxRecDepth 100000 in
theorem laws_markShiftS.calls (k : Nat) (P0_ : Nat → Prop) (u9000_ : Value) (l0 : List (S139)) (a1 : Int) (r1 : Int) (r2 : List (S139)) (w0 w : World) (hB : Below w0.heap.size w0 w) (ho0 : Kd.R k139 139 w w0.heap.size P0_ u9000_ l0) (h : laws_markShiftS.f k l0 a1 = some (r1, r2)) :
  Calls Try.prog 51 #[u9000_, .int .i64 a1] w fun e w' => e = .returned (.int .i64 r1) ∧ Kd.R k139 139 w' w0.heap.size (fun k_ => (P0_ k_ ∨ w.heap.size ≤ k_)) u9000_ r2 ∧ Below w0.heap.size w0 w' ∧ Kept w w' (fun k_ => P0_ k_) := by
 obtain ⟨HO0, HK, HW0, HB⟩ := zD4 (show Kd.R k139 139 w w0.heap.size (fun k_ => (P0_ k_ ∨ w.heap.size ≤ k_)) u9000_ l0 from zx ho0 (fun k_ hk => (.inl hk))) (Kept.refl w (fun k_ => P0_ k_)) hB.size hB
 clear hB
 have H : (laws_markShiftS.l0 k l0 a1 0) = some (r1, r2) := h
 clear h
 have H' := zb H
 clear H
 go_enter Try.func51, Try.ntmps51
 go_wp2
 go_loopg [1, 5] k (fun kq v1 v5 w' => ∃ (x0_1 : List (S139)) (x1_1 : Int) (x5_1 : Int), v1 = .int .i64 x1_1 ∧ v5 = .int .i64 x5_1 ∧ Aside0 (laws_markShiftS.l0 kq x0_1 x1_1 x5_1 = some (r1, r2)) ∧ Aside0 (kq ≤ k) ∧ Aside0 (Kd.R k139 139 w' w0.heap.size (fun k_ => (P0_ k_ ∨ w.heap.size ≤ k_)) u9000_ x0_1) ∧ Aside0 (Kept w w' (fun k_ => P0_ k_)) ∧ Aside0 (Below w0.heap.size w0 w'))
 case atStart => exact ⟨(l0), (a1), (0), zG100, zG100, H', ⟨Nat.le_refl _⟩, ⟨by (with_reducible repeat (first | apply zl | apply zm | apply zn)); exact HO0.out⟩, ⟨zH76⟩, ⟨zH91⟩⟩
 case round =>
  clear H'
  obtain ⟨x0_1, x1_1, x5_1, rfl, rfl, HA, HK1, HO_0, HK, HB⟩ := hrel
  cases gk with
  | zero => exact absurd HA.out (by simp [laws_markShiftS.l0])
  | succ k1 =>
   have H := HA.out
   clear HA
   simp only [laws_markShiftS.l0] at H
   by_cases c3 : x5_1 < (x0_1.length : Int)
   rotate_left
   ·rw [if_neg c3] at H
    have c3b0 := decide_eq_false c3
    clear c3
    simp only [Option.some.injEq, Prod.mk.injEq] at H
    obtain ⟨rfl, rfl⟩ := H
    obtain ⟨Ao17, co17, eo17⟩ := zaf HO_0.out
    subst eo17
    go_wp2
    go_ret
    exact zH12

   rw [if_pos c3] at H
   have c3b0 := decide_eq_true c3
   clear c3
   by_cases c4 : 0 ≤ x5_1
   rotate_left
   ·rw [if_neg c4] at H
    exact absurd H (by simp)
   rw [if_pos c4] at H
   have c4b0 := decide_eq_true c4
   clear c4
   obtain ⟨y317, hy317⟩ : ∃ y_ : List (S139), y_ = (x0_1.set (x5_1 : Int).toNat (⟨x1_1, (rd_T139 x0_1 x5_1).f1, (rd_T139 x0_1 x5_1).f2⟩ : S139)) := ⟨_, rfl⟩
   replace H : ((some (y317.set (x5_1 : Int).toNat (⟨(rd_T139 y317 x5_1).f0, wrap64 (x1_1 + 1), (rd_T139 y317 x5_1).f2⟩ : S139) : List (S139))).bind fun y318 => ((laws_markText.f k1 (wrap64 ((wrap64 (x1_1 + 1)) + 1))).bind fun t319 => (laws_markShiftS.l0 k1 (y318.set (x5_1 : Int).toNat (⟨(rd_T139 y318 x5_1).f0, (rd_T139 y318 x5_1).f1, t319⟩ : S139)) (wrap64 ((wrap64 ((wrap64 (x1_1 + 1)) + 1)) + 1)) (wrap64 (x5_1 + 1))))) = some (r1, r2) := by first | (rw [hy317]; with_reducible exact H) | (have H2_ := (Option.bind_some _ _).symm.trans H; rw [hy317]; with_reducible exact H2_) | (have H2_ := (Option.bind_some _ _).symm.trans H; with_reducible exact H2_) | with_reducible exact H | (rw [hy317]; exact H) | exact H
   have Ny317 := zb hy317
   clear hy317
   obtain ⟨y318, hy318⟩ : ∃ y_ : List (S139), y_ = (y317.set (x5_1 : Int).toNat (⟨(rd_T139 y317 x5_1).f0, wrap64 (x1_1 + 1), (rd_T139 y317 x5_1).f2⟩ : S139)) := ⟨_, rfl⟩
   replace H : ((laws_markText.f k1 (wrap64 ((wrap64 (x1_1 + 1)) + 1))).bind fun t319 => (laws_markShiftS.l0 k1 (y318.set (x5_1 : Int).toNat (⟨(rd_T139 y318 x5_1).f0, (rd_T139 y318 x5_1).f1, t319⟩ : S139)) (wrap64 ((wrap64 ((wrap64 (x1_1 + 1)) + 1)) + 1)) (wrap64 (x5_1 + 1)))) = some (r1, r2) := by first | (rw [hy318]; with_reducible exact H) | (have H2_ := (Option.bind_some _ _).symm.trans H; rw [hy318]; with_reducible exact H2_) | (have H2_ := (Option.bind_some _ _).symm.trans H; with_reducible exact H2_) | with_reducible exact H | (rw [hy318]; exact H) | exact H
   have Ny318 := zb hy318
   clear hy318
   replace H := Option.bind_eq_some_iff.mp H
   obtain ⟨t319, A70, H⟩ := H
   replace H : (laws_markShiftS.l0 k1 (y318.set (x5_1 : Int).toNat (⟨(rd_T139 y318 x5_1).f0, (rd_T139 y318 x5_1).f1, t319⟩ : S139)) (wrap64 ((wrap64 ((wrap64 (x1_1 + 1)) + 1)) + 1)) (wrap64 (x5_1 + 1))) = some (r1, r2) := H
   have A7 := zb A70
   clear A70
   obtain ⟨y320, hy320⟩ : ∃ y_ : List (S139), y_ = (y318.set (x5_1 : Int).toNat (⟨(rd_T139 y318 x5_1).f0, (rd_T139 y318 x5_1).f1, t319⟩ : S139)) := ⟨_, rfl⟩
   replace H : (laws_markShiftS.l0 k1 y320 (wrap64 ((wrap64 ((wrap64 (x1_1 + 1)) + 1)) + 1)) (wrap64 (x5_1 + 1))) = some (r1, r2) := by first | (rw [hy320]; with_reducible exact H) | (have H2_ := (Option.bind_some _ _).symm.trans H; rw [hy320]; with_reducible exact H2_) | (have H2_ := (Option.bind_some _ _).symm.trans H; with_reducible exact H2_) | with_reducible exact H | (rw [hy320]; exact H) | exact H
   have Ny320 := zb hy320
   clear hy320
   have H' := zb H
   clear H
   obtain ⟨Ao9, co9, eo9⟩ := zaf HO_0.out
   subst eo9
   have p5 : 0 ≤ (x5_1 : Int) := zO
   have q5 : (x5_1 : Int) < ((x0_1.length : Int) : Int) := zO
   obtain ⟨go5, co5, eo5, gb5, gl5, cl5, HG5⟩ := Kd.R_form HO_0.out (by omega)
   (first | cases eo5 | (injection eo5 with ea_ en_ ec_; (first | subst ea_ | (injection ea_ with ea_; subst ea_)); subst ec_; clear en_))
   obtain ⟨GB5, GG5, HMgo5⟩ := zD3 gb5 HG5 (show (P0_ go5 ∨ w.heap.size ≤ go5) from (HO_0.out.1 _ rfl))
   clear gb5 gl5 HG5
   obtain ⟨ce5, hcl5, hM5, hcc5, hfr5⟩ := zbd HO_0.out z139 (x5_1 : Int) p5 q5
   obtain rfl := k139_openM hM5
   have hx5_0 : wr.cell? ⟨go5, (x5_1 : Int).toNat * 3, none⟩ = some (.int .i64 ((rd_T139 x0_1 x5_1).f0)) := hcc5 0 _ rfl
   have hx5_1 : wr.cell? ⟨go5, (x5_1 : Int).toNat * 3 + 1, none⟩ = some (.int .i64 ((rd_T139 x0_1 x5_1).f1)) := hcc5 1 _ rfl
   have hx5_2 : wr.cell? ⟨go5, (x5_1 : Int).toNat * 3 + 2, none⟩ = some (.string ((rd_T139 x0_1 x5_1).f2)) := hcc5 2 _ rfl
   have hf5_0 : wr.frozen? ⟨go5, (x5_1 : Int).toNat * 3, none⟩ = false := hfr5 0
   have hf5_1 : wr.frozen? ⟨go5, (x5_1 : Int).toNat * 3 + 1, none⟩ = false := hfr5 1
   have hf5_2 : wr.frozen? ⟨go5, (x5_1 : Int).toNat * 3 + 2, none⟩ = false := hfr5 2
   clear hcl5 hcc5 hfr5 hM5
   replace p5 := eq_true p5
   replace q5 := eq_true q5
   have HX10 := zb (show Kd.R k139 139 wr w0.heap.size (fun k_ => (P0_ k_ ∨ w.heap.size ≤ k_)) (.slice (some ⟨go5, 0, none⟩) x0_1.length co9) x0_1 from zK231)
   obtain ⟨ce10, hcl10, hM10, hcc10, hfr10⟩ := zbd HX10.out z139 (x5_1 : Int) zO (by have h_ : (x5_1 : Int) < ((x0_1.length : Int) : Int) := zO; first | exact h_ | (have e_ := (Kd.R_reads' HO_0.out).1; omega) | simpa using h_)
   obtain rfl := k139_openM hM10
   have HP10 := Kd.R_seg HX10.out (x5_1 : Int) zO (by have h_ : (x5_1 : Int) < ((x0_1.length : Int) : Int) := zO; first | exact h_ | (have e_ := (Kd.R_reads' HO_0.out).1; omega) | simpa using h_) (seg := [.int .i64 x1_1]) (j := 0) hcl10 hcc10 (show 1 ≤ 3 from by decide) (x' := (⟨x1_1, (rd_T139 x0_1 x5_1).f1, (rd_T139 x0_1 x5_1).f2⟩ : S139)) (k139_mkM _ _ _ (⟨x1_1, (rd_T139 x0_1 x5_1).f1, (rd_T139 x0_1 x5_1).f2⟩ : S139) ) (fun _ hk => hk)
   have hx10_0 := hcc10 0 _ rfl
   (try simp only [show (k139).sz = 3 from rfl, Nat.mul_one, Nat.add_zero] at hx10_0)
   have hf10_0 := hfr10 0
   (try simp only [show (k139).sz = 3 from rfl, Nat.mul_one, Nat.add_zero] at hf10_0)
   clear hcl10 hcc10 hfr10 hM10
   go_wp2_with (first | ((with_reducible refine gate_store (t := 3) (p := 16) rfl ?_); refine store_event (t := 3) (p := 16) (v := ?vo_w11) (w1 := (wr.setCell ⟨go5, (x5_1 : Int).toNat * 3, none⟩ (.int .i64 x1_1))) ?hg ?ho ?hn ?hr ?_; (case ho => rfl); (case hg => rfl); (case hn => rfl); (case hr => exact zH117); intro w11 hw; have hg : wr.grownBy w11 (some go5) := (by rw [hw]; exact HP10.2); have hp_ : Kd.R k139 139 w11 w0.heap.size (fun k_ => (P0_ k_ ∨ w.heap.size ≤ k_)) (.slice (some ⟨go5, 0, none⟩) x0_1.length co9) y317 := (by rw [hw, Ny317.out]; exact HP10.1); clear HP10; have n_ := zA_ (zb (hp_)) (zA_ (zb ((by rw [hw]; exact zh (HB.out) GB5.out : Below w0.heap.size w0 w11))) (zb (zav (S := (fun k_ => P0_ k_)) hg zK191 (fun k_ e_ => (HO_0.out.1 k_ e_))))); clear HO_0 HB HK; obtain ⟨HO_0, HB, HK⟩ := n_; clear hg hw hp_; have p6 : 0 ≤ (x5_1 : Int) := zO; have q6 : (x5_1 : Int) < ((x0_1.length : Int) : Int) := zO; obtain ⟨ce6, hcl6, hM6, hcc6, hfr6⟩ := zbd HO_0.out z139 (x5_1 : Int) p6 q6; obtain rfl := k139_openM hM6; have hx6_0 : w11.cell? ⟨go5, (x5_1 : Int).toNat * 3, none⟩ = some (.int .i64 ((rd_T139 y317 x5_1).f0)) := hcc6 0 _ rfl; have hx6_1 : w11.cell? ⟨go5, (x5_1 : Int).toNat * 3 + 1, none⟩ = some (.int .i64 ((rd_T139 y317 x5_1).f1)) := hcc6 1 _ rfl; have hx6_2 : w11.cell? ⟨go5, (x5_1 : Int).toNat * 3 + 2, none⟩ = some (.string ((rd_T139 y317 x5_1).f2)) := hcc6 2 _ rfl; have hf6_0 : w11.frozen? ⟨go5, (x5_1 : Int).toNat * 3, none⟩ = false := hfr6 0; have hf6_1 : w11.frozen? ⟨go5, (x5_1 : Int).toNat * 3 + 1, none⟩ = false := hfr6 1; have hf6_2 : w11.frozen? ⟨go5, (x5_1 : Int).toNat * 3 + 2, none⟩ = false := hfr6 2; clear hcl6 hcc6 hfr6 hM6; replace p6 := eq_true p6; replace q6 := eq_true q6; have HX12 := zb (show Kd.R k139 139 w11 w0.heap.size (fun k_ => (P0_ k_ ∨ w.heap.size ≤ k_)) (.slice (some ⟨go5, 0, none⟩) x0_1.length co9) y317 from zK231); obtain ⟨ce12, hcl12, hM12, hcc12, hfr12⟩ := zbd HX12.out z139 (x5_1 : Int) zO (by have h_ : (x5_1 : Int) < ((x0_1.length : Int) : Int) := zO; first | exact h_ | (have e_ := (Kd.R_reads' HO_0.out).1; omega) | simpa using h_); obtain rfl := k139_openM hM12; have HP12 := Kd.R_seg HX12.out (x5_1 : Int) zO (by have h_ : (x5_1 : Int) < ((x0_1.length : Int) : Int) := zO; first | exact h_ | (have e_ := (Kd.R_reads' HO_0.out).1; omega) | simpa using h_) (seg := [.int .i64 (wrap64 (x1_1 + 1))]) (j := 1) hcl12 hcc12 (show 2 ≤ 3 from by decide) (x' := (⟨(rd_T139 y317 x5_1).f0, wrap64 (x1_1 + 1), (rd_T139 y317 x5_1).f2⟩ : S139)) (k139_mkM _ _ _ (⟨(rd_T139 y317 x5_1).f0, wrap64 (x1_1 + 1), (rd_T139 y317 x5_1).f2⟩ : S139) ) (fun _ hk => hk); have hx12_1 := hcc12 1 _ rfl; (try simp only [show (k139).sz = 3 from rfl, Nat.mul_one, Nat.add_zero] at hx12_1); have hf12_1 := hfr12 1; (try simp only [show (k139).sz = 3 from rfl, Nat.mul_one, Nat.add_zero] at hf12_1); clear hcl12 hcc12 hfr12 hM12) | ((with_reducible refine gate_store (t := 3) (p := 23) rfl ?_); refine store_event (t := 3) (p := 23) (v := ?vo_w13) (w1 := (w11.setCell ⟨go5, (x5_1 : Int).toNat * 3 + 1, none⟩ (.int .i64 (wrap64 (x1_1 + 1))))) ?hg ?ho ?hn ?hr ?_; (case ho => rfl); (case hg => rfl); (case hn => rfl); (case hr => exact zH117); intro w13 hw; have hg : w11.grownBy w13 (some go5) := (by rw [hw]; exact HP12.2); have hp_ : Kd.R k139 139 w13 w0.heap.size (fun k_ => (P0_ k_ ∨ w.heap.size ≤ k_)) (.slice (some ⟨go5, 0, none⟩) x0_1.length co9) y318 := (by rw [hw, Ny318.out]; exact HP12.1); clear HP12; have n_ := zA_ (zb (hp_)) (zA_ (zb ((by rw [hw]; exact zh (HB.out) GB5.out : Below w0.heap.size w0 w13))) (zb (zav (S := (fun k_ => P0_ k_)) hg zK191 (fun k_ e_ => (HO_0.out.1 k_ e_))))); clear HO_0 HB HK; obtain ⟨HO_0, HB, HK⟩ := n_; clear hg hw hp_) | ((with_reducible refine gate_callee (f := 108) rfl ?_); refine goesL_ (some 29) rfl rfl Try.func108 zG101 rfl #[.int .i64 (wrap64 ((wrap64 (x1_1 + 1)) + 1))] rfl zG67 ?_; (with_reducible refine (laws_markText.calls k1 (wrap64 ((wrap64 (x1_1 + 1)) + 1)) t319 _ A7.out).mono ?_); rintro e w14 ⟨rfl, hb⟩; refine ⟨_, rfl, ?_⟩; have n_ := zA_ (zb (zr zK231 hb)) (zA_ (zb (Kept.below (S := (fun k_ => P0_ k_)) zK191 hb)) (zb (zp zG77 hb))); clear HO_0 HK HB; obtain ⟨HO_0, HK, HB⟩ := n_; (try clear hb); (try clear hk); have p8 : 0 ≤ (x5_1 : Int) := zO; have q8 : (x5_1 : Int) < ((x0_1.length : Int) : Int) := zO; obtain ⟨ce8, hcl8, hM8, hcc8, hfr8⟩ := zbd HO_0.out z139 (x5_1 : Int) p8 q8; obtain rfl := k139_openM hM8; have hx8_0 : w14.cell? ⟨go5, (x5_1 : Int).toNat * 3, none⟩ = some (.int .i64 ((rd_T139 y318 x5_1).f0)) := hcc8 0 _ rfl; have hx8_1 : w14.cell? ⟨go5, (x5_1 : Int).toNat * 3 + 1, none⟩ = some (.int .i64 ((rd_T139 y318 x5_1).f1)) := hcc8 1 _ rfl; have hx8_2 : w14.cell? ⟨go5, (x5_1 : Int).toNat * 3 + 2, none⟩ = some (.string ((rd_T139 y318 x5_1).f2)) := hcc8 2 _ rfl; have hf8_0 : w14.frozen? ⟨go5, (x5_1 : Int).toNat * 3, none⟩ = false := hfr8 0; have hf8_1 : w14.frozen? ⟨go5, (x5_1 : Int).toNat * 3 + 1, none⟩ = false := hfr8 1; have hf8_2 : w14.frozen? ⟨go5, (x5_1 : Int).toNat * 3 + 2, none⟩ = false := hfr8 2; clear hcl8 hcc8 hfr8 hM8; replace p8 := eq_true p8; replace q8 := eq_true q8; have HX15 := zb (show Kd.R k139 139 w14 w0.heap.size (fun k_ => (P0_ k_ ∨ w.heap.size ≤ k_)) (.slice (some ⟨go5, 0, none⟩) x0_1.length co9) y318 from zK231); obtain ⟨ce15, hcl15, hM15, hcc15, hfr15⟩ := zbd HX15.out z139 (x5_1 : Int) zO (by have h_ : (x5_1 : Int) < ((x0_1.length : Int) : Int) := zO; first | exact h_ | (have e_ := (Kd.R_reads' HO_0.out).1; omega) | simpa using h_); obtain rfl := k139_openM hM15; have HP15 := Kd.R_seg HX15.out (x5_1 : Int) zO (by have h_ : (x5_1 : Int) < ((x0_1.length : Int) : Int) := zO; first | exact h_ | (have e_ := (Kd.R_reads' HO_0.out).1; omega) | simpa using h_) (seg := [.string t319]) (j := 2) hcl15 hcc15 (show 3 ≤ 3 from by decide) (x' := (⟨(rd_T139 y318 x5_1).f0, (rd_T139 y318 x5_1).f1, t319⟩ : S139)) (k139_mkM _ _ _ (⟨(rd_T139 y318 x5_1).f0, (rd_T139 y318 x5_1).f1, t319⟩ : S139) ) (fun _ hk => hk); have hx15_2 := hcc15 2 _ rfl; (try simp only [show (k139).sz = 3 from rfl, Nat.mul_one, Nat.add_zero] at hx15_2); have hf15_2 := hfr15 2; (try simp only [show (k139).sz = 3 from rfl, Nat.mul_one, Nat.add_zero] at hf15_2); clear hcl15 hcc15 hfr15 hM15) | ((with_reducible refine gate_store (t := 9) (p := 31) rfl ?_); refine store_event (t := 9) (p := 31) (v := ?vo_w16) (w1 := (w14.setCell ⟨go5, (x5_1 : Int).toNat * 3 + 2, none⟩ (.string t319))) ?hg ?ho ?hn ?hr ?_; (case ho => rfl); (case hg => rfl); (case hn => rfl); (case hr => exact zH117); intro w16 hw; have hg : w14.grownBy w16 (some go5) := (by rw [hw]; exact HP15.2); have hp_ : Kd.R k139 139 w16 w0.heap.size (fun k_ => (P0_ k_ ∨ w.heap.size ≤ k_)) (.slice (some ⟨go5, 0, none⟩) x0_1.length co9) y320 := (by rw [hw, Ny320.out]; exact HP15.1); clear HP15; have n_ := zA_ (zb (hp_)) (zA_ (zb ((by rw [hw]; exact zh (HB.out) GB5.out : Below w0.heap.size w0 w16))) (zb (zav (S := (fun k_ => P0_ k_)) hg zK191 (fun k_ e_ => (HO_0.out.1 k_ e_))))); clear HO_0 HB HK; obtain ⟨HO_0, HB, HK⟩ := n_; clear hg hw hp_))
   go_roundg k1
   case measure => have := HK1.out; omega
   case rel => exact ⟨(y320), (wrap64 ((wrap64 ((wrap64 (x1_1 + 1)) + 1)) + 1)), (wrap64 (x5_1 + 1)), zG100, zG100, H', ⟨zH120⟩, ⟨zH109⟩, ⟨zH76⟩, ⟨zH91⟩⟩
end Go.Proofs.Ytojncbpeeboooaa.U
