-- squeezed
-- made by pp.py (wip/tools) out of the translation; Lean checks it
import Derived.Test.YtjibigpdbpipcaaR0
import Derived.Test.YtjibigpdbpipcaaR11
namespace Go.Proofs.Ytjibigpdbpipcaa.R
open Go.RowKit Go.Proofs.YtjibigpdbpipcaaW.PrintWords Go.Proofs.YtjibigpdbpipcaaW.PrintLast Go.Proofs.YtjibigpdbpipcaaW.PrintMore
attribute [local go_sem] max2_int min2_int max_two min_two max_three min_three max_four min_four   -- for this text's walks alone
set_option linter.unusedVariables false
set_option linter.unusedSimpArgs false

abbrev b12A0 : Array Bool := #[false, false, false, false, false, false, false, false, false, false]
abbrev b12A1 : Array Bool := #[true, false, false, false, false, false, false, false, false, false]
abbrev b12A2 : Array Bool := #[true, true, false, false, false, false, false, false, false, false]
abbrev b12A3 : Array Bool := #[true, true, true, false, false, false, false, false, false, false]
abbrev b12A4 : Array Bool := #[true, true, true, false, true, false, false, false, false, false]
abbrev b12A5 : Array Bool := #[true, true, true, false, true, true, false, false, false, false]
abbrev b12A6 : Array Bool := #[true, true, true, false, true, true, true, false, false, false]
abbrev b12A7 : Array Bool := #[true, true, true, true, true, true, true, false, false, false]
abbrev b12A8 : Array Bool := #[true, true, true, true, true, true, true, true, false, false]
abbrev b12A9 : Array Bool := #[true, true, true, true, true, true, true, true, true, false]
abbrev b12A10 : Array Bool := #[true, true, true, true, true, true, true, true, true, true]
/-! ### laws_eqShiftS: function 28 -/
def laws_eqShiftS.l0 : Nat → List (S98) → List (S98) → Int → Option (Bool)
 | 0, _, _, _ => none
 | k + 1, x0, x1, x5 => if x5 < (x0.length : Int) then (if 0 ≤ x5 then (if x5 < (x1.length : Int) then ((laws_eqShift.f ((rd_T98 x0 x5).f0) ((rd_T98 x0 x5).f1) ((rd_T98 x0 x5).f2) ((rd_T98 x1 x5).f0) ((rd_T98 x1 x5).f1) ((rd_T98 x1 x5).f2)).bind fun t276 => (if t276 = true then (laws_eqShiftS.l0 k x0 x1 (wrap64 (x5 + 1))) else (some false))) else (none)) else (none)) else (some true)
def laws_eqShiftS.f (k : Nat) (l0 : List (S98)) (l1 : List (S98)) : Option (Bool) := if (l0.length : Int) = (l1.length : Int) then (laws_eqShiftS.l0 k l0 l1 0) else (some false)
theorem laws_eqShiftS.mono_l : ∀ k, (∀ y0 y1 y2, LeO (laws_eqShiftS.l0 k y0 y1 y2) (laws_eqShiftS.l0 (k + 1) y0 y1 y2))
 | 0 => fun _ _ _ r h => by simp [laws_eqShiftS.l0] at h
 | k + 1 => by
  have ih0 := laws_eqShiftS.mono_l k
  ·intro y0 y1 y2
   unfold laws_eqShiftS.l0
   repeat' first
   | (with_reducible exact ih0 _ _ _)
   | (with_reducible exact LeO.refl _)
   | (with_reducible exact LeO.none _)
   | (with_reducible refine LeO.ite ?_ ?_)
   | (with_reducible refine LeO.bind ?_ (fun _ => ?_))
   | exact ih0 _ _ _
   | exact LeO.none _
   | refine LeO.ite ?_ ?_
   | refine LeO.bind ?_ (fun _ => ?_)
theorem laws_eqShiftS.mono : ∀ a0 a1 k, LeO (laws_eqShiftS.f k a0 a1) (laws_eqShiftS.f (k + 1) a0 a1) := by
 intro a0 a1 k
 have ih0 := laws_eqShiftS.mono_l k
 unfold laws_eqShiftS.f
 repeat' first
   | (with_reducible exact ih0 _ _ _)
   | (with_reducible exact LeO.refl _)
   | (with_reducible exact LeO.none _)
   | (with_reducible refine LeO.ite ?_ ?_)
   | (with_reducible refine LeO.bind ?_ (fun _ => ?_))
   | exact ih0 _ _ _
   | exact LeO.none _
   | refine LeO.ite ?_ ?_
   | refine LeO.bind ?_ (fun _ => ?_)
def laws_eqShiftS.T6 : Bool × List (List Nat × List Nat) := (true, [([], []), ([], []), ([0, 1], [0, 1]), ([2], [2]), ([], []), ([], []), ([4, 5], [4, 5]), ([6], [6]), ([3, 7], [3, 7]), ([8], [8])])
def laws_eqShiftS.B6 : List Nat := [0, 0, 3, 7, 0, 0, 48, 112, 255, 511]
theorem laws_eqShiftS.tab6 : rtab .any (opsOf Try.f28 6) = laws_eqShiftS.T6 := by kernel_rfl
theorem laws_eqShiftS.bits6 : waitsOk laws_eqShiftS.T6.2 laws_eqShiftS.B6 = true := by kernel_rfl
set_option maxHeartbeats 8000000 in
set_option maxRecDepth 100000 in
theorem laws_eqShiftS.calls (k : Nat) (A0 : Option Addr) (c0 : Nat) (l0 : List (S98)) (A1 : Option Addr) (c1 : Nat) (l1 : List (S98)) (r : Bool) (w : World) (hr0 : Kd.C k98 w A0 l0.length l0) (hc0 : l0.length ≤ c0) (hr1 : Kd.C k98 w A1 l1.length l1) (hc1 : l1.length ≤ c1) (h : laws_eqShiftS.f k l0 l1 = some r) :
  Calls Try.prog 28 #[.slice A0 l0.length c0, .slice A1 l1.length c1] w fun e w' => e = .returned (.bool r) ∧ Below w.heap.size w w' := by
 have hu98 := Try.underlying98
 have HR0 := zb hr0
 have HC0 := zb hc0
 clear hr0 hc0
 have HR1 := zb hr1
 have HC1 := zb hc1
 clear hr1 hc1
 have HB := zb (Below.refl w.heap.size w)
 have H : (if (l0.length : Int) = (l1.length : Int) then (laws_eqShiftS.l0 k l0 l1 0) else (some false)) = some r := h
 clear h
 by_cases c3 : (l0.length : Int) = (l1.length : Int)
 rotate_left
 ·rw [if_neg c3] at H
  have c3b0 : ((l0.length : Int) == (l1.length : Int)) = false := beq_eq_false_iff_ne.mpr c3
  have c3b1 : ((l0.length : Int) != (l1.length : Int)) = true := bne_iff_ne.mpr c3
  have c3b2 : (l0.length == l1.length) = false := by first | simpa using c3 | (simp at c3 ⊢; omega)
  obtain rfl := Option.some.inj H
  go_enter Try.func28, Try.ntmps28
  go_wp2
  go_ret
  exact zH24

 rw [if_pos c3] at H
 have c3b0 : ((l0.length : Int) == (l1.length : Int)) = true := beq_iff_eq.mpr c3
 have c3b1 : ((l0.length : Int) != (l1.length : Int)) = false := bne_eq_false_iff_eq.mpr c3
 have c3b2 : (l0.length == l1.length) = true := by first | simpa using c3 | (simp at c3 ⊢; omega)
 clear c3
 have H' := zb H
 clear H
 go_enter Try.func28, Try.ntmps28
 go_wp2
 go_loopg [5] k (fun kq v5 w' => ∃ (x5_1 : Int), v5 = .int .i64 x5_1 ∧ Aside0 (laws_eqShiftS.l0 kq l0 l1 x5_1 = some r) ∧ Aside0 (kq ≤ k) ∧ Aside0 (Below w.heap.size w w'))
 case atStart => exact ⟨(0), zG95, H', ⟨Nat.le_refl _⟩, ⟨zH79⟩⟩
 case round =>
  clear H'
  try clear c1
  try clear c2
  try clear p2
  try clear c3
  try clear c3b0
  try clear c3b1
  try clear c3b2
  obtain ⟨x5_1, rfl, HA, HK1, HB⟩ := hrel
  cases gk with
  | zero => exact absurd HA.out (by simp [laws_eqShiftS.l0])
  | succ k1 =>
   have H := HA.out
   clear HA
   simp only [laws_eqShiftS.l0] at H
   by_cases c4 : x5_1 < (l0.length : Int)
   rotate_left
   ·rw [if_neg c4] at H
    have c4b0 := decide_eq_false c4
    clear c4
    obtain rfl := Option.some.inj H
    go_wp2
    go_ret
    exact zH24
   rw [if_pos c4] at H
   have c4b0 := decide_eq_true c4
   clear c4
   by_cases c5 : 0 ≤ x5_1
   rotate_left
   ·rw [if_neg c5] at H
    exact absurd H (by simp)
   rw [if_pos c5] at H
   have c5b0 := decide_eq_true c5
   clear c5
   by_cases c6 : x5_1 < (l1.length : Int)
   rotate_left
   ·rw [if_neg c6] at H
    exact absurd H (by simp)
   rw [if_pos c6] at H
   have c6b0 := decide_eq_true c6
   clear c6
   replace H := Option.bind_eq_some_iff.mp H
   obtain ⟨t276, A70, H⟩ := H
   replace H : (if t276 = true then (laws_eqShiftS.l0 k1 l0 l1 (wrap64 (x5_1 + 1))) else (some false)) = some r := H
   have A7 := zb A70
   clear A70
   by_cases c8 : t276 = true
   rotate_left
   ·replace c8 := Bool.eq_false_iff.mpr c8
    subst c8
    have H1 : (some false) = some r := by rw [if_neg (show ¬ (false = true) by decide)] at H; exact H
    clear H
    have H := H1
    clear H1
    obtain rfl := Option.some.inj H
    try go_wp2
    have n0_ := zb (zd HB.out)
    clear HB
    have HB := n0_
    clear n0_
    have p274 : 0 ≤ (x5_1 : Int) := zO
    have q274 : x5_1 < (l0.length : Int) := zO
    obtain ⟨ad274, e274, hx274_0, hx274_1, hx274_2⟩ := at_T98 HR0.out x5_1 p274 q274
    have hw274_2 := hx274_2
    have hw274_1 := hx274_1
    have hw274_0 := hx274_0
    cases e274
    replace hx274_0 := (HB.out.cell (za w _ hx274_0)).trans hx274_0
    replace hx274_1 := (HB.out.cell (za w _ hx274_1)).trans hx274_1
    replace hx274_2 := (HB.out.cell (za w _ hx274_2)).trans hx274_2
    replace p274 := eq_true p274
    replace q274 := eq_true q274
    have p275 : 0 ≤ (x5_1 : Int) := zO
    have q275 : x5_1 < (l1.length : Int) := zO
    obtain ⟨ad275, e275, hx275_0, hx275_1, hx275_2⟩ := at_T98 HR1.out x5_1 p275 q275
    have hw275_2 := hx275_2
    have hw275_1 := hx275_1
    have hw275_0 := hx275_0
    cases e275
    replace hx275_0 := (HB.out.cell (za w _ hx275_0)).trans hx275_0
    replace hx275_1 := (HB.out.cell (za w _ hx275_1)).trans hx275_1
    replace hx275_2 := (HB.out.cell (za w _ hx275_2)).trans hx275_2
    replace p275 := eq_true p275
    replace q275 := eq_true q275
    refine start_ (n := 10) (S := fun w' => w'.cell? (ad274.add ((x5_1).toNat * 3)) = some (.int .i64 ((rd_T98 l0 x5_1).f0)) ∧ w'.cell? ⟨(ad274.add ((x5_1).toNat * 3)).block, (ad274.add ((x5_1).toNat * 3)).off + 1, none⟩ = some (.int .i64 ((rd_T98 l0 x5_1).f1)) ∧ w'.cell? ⟨(ad274.add ((x5_1).toNat * 3)).block, (ad274.add ((x5_1).toNat * 3)).off + 2, none⟩ = some (.string ((rd_T98 l0 x5_1).f2)) ∧ w'.cell? (ad275.add ((x5_1).toNat * 3)) = some (.int .i64 ((rd_T98 l1 x5_1).f0)) ∧ w'.cell? ⟨(ad275.add ((x5_1).toNat * 3)).block, (ad275.add ((x5_1).toNat * 3)).off + 1, none⟩ = some (.int .i64 ((rd_T98 l1 x5_1).f1)) ∧ w'.cell? ⟨(ad275.add ((x5_1).toNat * 3)).block, (ad275.add ((x5_1).toNat * 3)).off + 2, none⟩ = some (.string ((rd_T98 l1 x5_1).f2))) (ds := []) b12A0 zG96 rfl rfl ⟨((HB.out.cell (za w _ hw274_0)).trans hw274_0), ((HB.out.cell (za w _ hw274_1)).trans hw274_1), ((HB.out.cell (za w _ hw274_2)).trans hw274_2), ((HB.out.cell (za w _ hw275_0)).trans hw275_0), ((HB.out.cell (za w _ hw275_1)).trans hw275_1), ((HB.out.cell (za w _ hw275_2)).trans hw275_2)⟩ (fun hHeld => ?_); refine with_tabW laws_eqShiftS.tab6 laws_eqShiftS.bits6 (fun HT_ HW_ => ?_)
    generalize wr.drew = w11 at HB hx274_0 hx274_1 hx274_2 hx275_0 hx275_1 hx275_2 hHeld ⊢
    refine pure_ (i := 0) (N := some 17) (v := ?_) (a' := ?_) b12A1 rfl rfl (any_of HT_.out zG96) (fun _ _ _ h => h) (Or.inl ⟨by rfl, ?_⟩) ?_ ?_
    rotate_left
    ·intro w'
     go_simp
     with_reducible rfl
    rotate_left
    ·simp only [Act.put, List.setIfInBounds_toArray, List.set_cons_zero, List.set_cons_succ, i64_w, i32_w]
     rfl
    refine pure_ (i := 1) (N := some 18) (v := ?_) (a' := ?_) b12A2 rfl rfl (any_of HT_.out zG96) (fun _ _ _ h => h) (Or.inl ⟨by rfl, ?_⟩) ?_ ?_
    rotate_left
    ·intro w'
     go_simp
     with_reducible rfl
    rotate_left
    ·simp only [Act.put, List.setIfInBounds_toArray, List.set_cons_zero, List.set_cons_succ, i64_w, i32_w]
     rfl
    refine pure_ (i := 2) (N := some 19) (v := ?_) (a' := ?_) b12A3 rfl rfl (any_of HT_.out zG96) (fun _ _ _ h => h) (Or.inl ⟨by rfl, ?_⟩) ?_ ?_
    rotate_left
    ·intro w'
     go_simp
     with_reducible rfl
    rotate_left
    ·simp only [Act.put, List.setIfInBounds_toArray, List.set_cons_zero, List.set_cons_succ, i64_w, i32_w]
     rfl
    refine pure_ (i := 4) (N := some 21) (v := ?_) (a' := ?_) b12A4 rfl rfl (any_of HT_.out zG96) (fun _ _ _ h => h) (Or.inl ⟨by rfl, ?_⟩) ?_ ?_
    rotate_left
    ·intro w'
     go_simp
     with_reducible rfl
    rotate_left
    ·simp only [Act.put, List.setIfInBounds_toArray, List.set_cons_zero, List.set_cons_succ, i64_w, i32_w]
     rfl
    refine pure_ (i := 5) (N := some 22) (v := ?_) (a' := ?_) b12A5 rfl rfl (any_of HT_.out zG96) (fun _ _ _ h => h) (Or.inl ⟨by rfl, ?_⟩) ?_ ?_
    rotate_left
    ·intro w'
     go_simp
     with_reducible rfl
    rotate_left
    ·simp only [Act.put, List.setIfInBounds_toArray, List.set_cons_zero, List.set_cons_succ, i64_w, i32_w]
     rfl
    refine pure_ (i := 6) (N := some 23) (v := ?_) (a' := ?_) b12A6 rfl rfl (any_of HT_.out zG96) (fun _ _ _ h => h) (Or.inl ⟨by rfl, ?_⟩) ?_ ?_
    rotate_left
    ·intro w'
     go_simp
     with_reducible rfl
    rotate_left
    ·simp only [Act.put, List.setIfInBounds_toArray, List.set_cons_zero, List.set_cons_succ, i64_w, i32_w]
     rfl
    refine take_ (i := 3) (N := some 20) (v := ?_) (a' := ?_) b12A7 rfl rfl (take_ofW HT_.out HW_.out zG96) (fun _ _ _ h => h) (Or.inl ⟨by rfl, ?_⟩) hHeld ?_ ?_
    rotate_left
    ·rintro w' ⟨s0, s1, s2, s3, s4, s5⟩
     go_simp
     with_reducible rfl
    rotate_left
    ·simp only [Act.put, List.setIfInBounds_toArray, List.set_cons_zero, List.set_cons_succ, i64_w, i32_w]
     rfl
    refine take_ (i := 7) (N := some 24) (v := ?_) (a' := ?_) b12A8 rfl rfl (take_ofW HT_.out HW_.out zG96) (fun _ _ _ h => h) (Or.inl ⟨by rfl, ?_⟩) hHeld ?_ ?_
    rotate_left
    ·rintro w' ⟨s0, s1, s2, s3, s4, s5⟩
     go_simp
     with_reducible rfl
    rotate_left
    ·simp only [Act.put, List.setIfInBounds_toArray, List.set_cons_zero, List.set_cons_succ, i64_w, i32_w]
     rfl
    refine one_ (i := 8) (N := some 25) b12A9 rfl rfl (one_of HT_.out zG96) (by decide) (fun K hK => ?_)
    refine goes_ Try.func65 zG96 rfl #[.agg #[.int .i64 ((rd_T98 l0 x5_1).f0), .int .i64 ((rd_T98 l0 x5_1).f1), .string ((rd_T98 l0 x5_1).f2)], .agg #[.int .i64 ((rd_T98 l1 x5_1).f0), .int .i64 ((rd_T98 l1 x5_1).f1), .string ((rd_T98 l1 x5_1).f2)]] (by rfl) rfl rfl zG65 ?_
    with_reducible refine (laws_eqShift.calls ((rd_T98 l0 x5_1).f0) ((rd_T98 l0 x5_1).f1) ((rd_T98 l0 x5_1).f2) ((rd_T98 l1 x5_1).f0) ((rd_T98 l1 x5_1).f1) ((rd_T98 l1 x5_1).f2) false _ A7.out).mono ?_
    rintro e w12 ⟨rfl, hb⟩
    refine ⟨_, rfl, ?_⟩
    have n0_ := zb (zq zG76 hb)
    clear HB
    have HB := n0_
    clear n0_
    (try clear hb)
    (try clear hb2)
    (try clear hk)
    (try clear hi)
    refine hK.out _ _ ⟨((HB.out.cell (za w _ hw274_0)).trans hw274_0), ((HB.out.cell (za w _ hw274_1)).trans hw274_1), ((HB.out.cell (za w _ hw274_2)).trans hw274_2), ((HB.out.cell (za w _ hw275_0)).trans hw275_0), ((HB.out.cell (za w _ hw275_1)).trans hw275_1), ((HB.out.cell (za w _ hw275_2)).trans hw275_2)⟩ (fun hHeld => ?_)
    clear hK K
    refine norm_ (a' := ?_) ?_ ?_
    rotate_left
    ·show Act.put _ (some 25) _ = _
     simp only [Act.put, List.setIfInBounds_toArray, List.set_cons_zero, List.set_cons_succ, i64_w, i32_w]
     rfl
    refine pure_ (i := 9) (N := some 26) (v := ?_) (a' := ?_) b12A10 rfl rfl (any_of HT_.out zG96) (fun _ _ _ h => h) (Or.inl ⟨by rfl, ?_⟩) ?_ ?_
    rotate_left
    ·intro w'
     go_simp
     with_reducible rfl
    rotate_left
    ·simp only [Act.put, List.setIfInBounds_toArray, List.set_cons_zero, List.set_cons_succ, i64_w, i32_w]
     rfl
    refine done_ (done_of HT_.out zG96) ?_
    try go_wp2
    go_ret
    exact zH24
   subst c8
   have H1 : (laws_eqShiftS.l0 k1 l0 l1 (wrap64 (x5_1 + 1))) = some r := by rw [if_pos rfl] at H; exact H
   clear H
   have H := H1
   clear H1
   have H' := zb H
   clear H
   try go_wp2
   have n0_ := zb (zd HB.out)
   clear HB
   have HB := n0_
   clear n0_
   have p274 : 0 ≤ (x5_1 : Int) := zO
   have q274 : x5_1 < (l0.length : Int) := zO
   obtain ⟨ad274, e274, hx274_0, hx274_1, hx274_2⟩ := at_T98 HR0.out x5_1 p274 q274
   have hw274_2 := hx274_2
   have hw274_1 := hx274_1
   have hw274_0 := hx274_0
   cases e274
   replace hx274_0 := (HB.out.cell (za w _ hx274_0)).trans hx274_0
   replace hx274_1 := (HB.out.cell (za w _ hx274_1)).trans hx274_1
   replace hx274_2 := (HB.out.cell (za w _ hx274_2)).trans hx274_2
   replace p274 := eq_true p274
   replace q274 := eq_true q274
   have p275 : 0 ≤ (x5_1 : Int) := zO
   have q275 : x5_1 < (l1.length : Int) := zO
   obtain ⟨ad275, e275, hx275_0, hx275_1, hx275_2⟩ := at_T98 HR1.out x5_1 p275 q275
   have hw275_2 := hx275_2
   have hw275_1 := hx275_1
   have hw275_0 := hx275_0
   cases e275
   replace hx275_0 := (HB.out.cell (za w _ hx275_0)).trans hx275_0
   replace hx275_1 := (HB.out.cell (za w _ hx275_1)).trans hx275_1
   replace hx275_2 := (HB.out.cell (za w _ hx275_2)).trans hx275_2
   replace p275 := eq_true p275
   replace q275 := eq_true q275
   refine start_ (n := 10) (S := fun w' => w'.cell? (ad274.add ((x5_1).toNat * 3)) = some (.int .i64 ((rd_T98 l0 x5_1).f0)) ∧ w'.cell? ⟨(ad274.add ((x5_1).toNat * 3)).block, (ad274.add ((x5_1).toNat * 3)).off + 1, none⟩ = some (.int .i64 ((rd_T98 l0 x5_1).f1)) ∧ w'.cell? ⟨(ad274.add ((x5_1).toNat * 3)).block, (ad274.add ((x5_1).toNat * 3)).off + 2, none⟩ = some (.string ((rd_T98 l0 x5_1).f2)) ∧ w'.cell? (ad275.add ((x5_1).toNat * 3)) = some (.int .i64 ((rd_T98 l1 x5_1).f0)) ∧ w'.cell? ⟨(ad275.add ((x5_1).toNat * 3)).block, (ad275.add ((x5_1).toNat * 3)).off + 1, none⟩ = some (.int .i64 ((rd_T98 l1 x5_1).f1)) ∧ w'.cell? ⟨(ad275.add ((x5_1).toNat * 3)).block, (ad275.add ((x5_1).toNat * 3)).off + 2, none⟩ = some (.string ((rd_T98 l1 x5_1).f2))) (ds := []) b12A0 zG96 rfl rfl ⟨((HB.out.cell (za w _ hw274_0)).trans hw274_0), ((HB.out.cell (za w _ hw274_1)).trans hw274_1), ((HB.out.cell (za w _ hw274_2)).trans hw274_2), ((HB.out.cell (za w _ hw275_0)).trans hw275_0), ((HB.out.cell (za w _ hw275_1)).trans hw275_1), ((HB.out.cell (za w _ hw275_2)).trans hw275_2)⟩ (fun hHeld => ?_); refine with_tabW laws_eqShiftS.tab6 laws_eqShiftS.bits6 (fun HT_ HW_ => ?_)
   generalize wr.drew = w9 at HB hx274_0 hx274_1 hx274_2 hx275_0 hx275_1 hx275_2 hHeld ⊢
   refine pure_ (i := 0) (N := some 17) (v := ?_) (a' := ?_) b12A1 rfl rfl (any_of HT_.out zG96) (fun _ _ _ h => h) (Or.inl ⟨by rfl, ?_⟩) ?_ ?_
   rotate_left
   ·intro w'
    go_simp
    with_reducible rfl
   rotate_left
   ·simp only [Act.put, List.setIfInBounds_toArray, List.set_cons_zero, List.set_cons_succ, i64_w, i32_w]
    rfl
   refine pure_ (i := 1) (N := some 18) (v := ?_) (a' := ?_) b12A2 rfl rfl (any_of HT_.out zG96) (fun _ _ _ h => h) (Or.inl ⟨by rfl, ?_⟩) ?_ ?_
   rotate_left
   ·intro w'
    go_simp
    with_reducible rfl
   rotate_left
   ·simp only [Act.put, List.setIfInBounds_toArray, List.set_cons_zero, List.set_cons_succ, i64_w, i32_w]
    rfl
   refine pure_ (i := 2) (N := some 19) (v := ?_) (a' := ?_) b12A3 rfl rfl (any_of HT_.out zG96) (fun _ _ _ h => h) (Or.inl ⟨by rfl, ?_⟩) ?_ ?_
   rotate_left
   ·intro w'
    go_simp
    with_reducible rfl
   rotate_left
   ·simp only [Act.put, List.setIfInBounds_toArray, List.set_cons_zero, List.set_cons_succ, i64_w, i32_w]
    rfl
   refine pure_ (i := 4) (N := some 21) (v := ?_) (a' := ?_) b12A4 rfl rfl (any_of HT_.out zG96) (fun _ _ _ h => h) (Or.inl ⟨by rfl, ?_⟩) ?_ ?_
   rotate_left
   ·intro w'
    go_simp
    with_reducible rfl
   rotate_left
   ·simp only [Act.put, List.setIfInBounds_toArray, List.set_cons_zero, List.set_cons_succ, i64_w, i32_w]
    rfl
   refine pure_ (i := 5) (N := some 22) (v := ?_) (a' := ?_) b12A5 rfl rfl (any_of HT_.out zG96) (fun _ _ _ h => h) (Or.inl ⟨by rfl, ?_⟩) ?_ ?_
   rotate_left
   ·intro w'
    go_simp
    with_reducible rfl
   rotate_left
   ·simp only [Act.put, List.setIfInBounds_toArray, List.set_cons_zero, List.set_cons_succ, i64_w, i32_w]
    rfl
   refine pure_ (i := 6) (N := some 23) (v := ?_) (a' := ?_) b12A6 rfl rfl (any_of HT_.out zG96) (fun _ _ _ h => h) (Or.inl ⟨by rfl, ?_⟩) ?_ ?_
   rotate_left
   ·intro w'
    go_simp
    with_reducible rfl
   rotate_left
   ·simp only [Act.put, List.setIfInBounds_toArray, List.set_cons_zero, List.set_cons_succ, i64_w, i32_w]
    rfl
   refine take_ (i := 3) (N := some 20) (v := ?_) (a' := ?_) b12A7 rfl rfl (take_ofW HT_.out HW_.out zG96) (fun _ _ _ h => h) (Or.inl ⟨by rfl, ?_⟩) hHeld ?_ ?_
   rotate_left
   ·rintro w' ⟨s0, s1, s2, s3, s4, s5⟩
    go_simp
    with_reducible rfl
   rotate_left
   ·simp only [Act.put, List.setIfInBounds_toArray, List.set_cons_zero, List.set_cons_succ, i64_w, i32_w]
    rfl
   refine take_ (i := 7) (N := some 24) (v := ?_) (a' := ?_) b12A8 rfl rfl (take_ofW HT_.out HW_.out zG96) (fun _ _ _ h => h) (Or.inl ⟨by rfl, ?_⟩) hHeld ?_ ?_
   rotate_left
   ·rintro w' ⟨s0, s1, s2, s3, s4, s5⟩
    go_simp
    with_reducible rfl
   rotate_left
   ·simp only [Act.put, List.setIfInBounds_toArray, List.set_cons_zero, List.set_cons_succ, i64_w, i32_w]
    rfl
   refine one_ (i := 8) (N := some 25) b12A9 rfl rfl (one_of HT_.out zG96) (by decide) (fun K hK => ?_)
   refine goes_ Try.func65 zG96 rfl #[.agg #[.int .i64 ((rd_T98 l0 x5_1).f0), .int .i64 ((rd_T98 l0 x5_1).f1), .string ((rd_T98 l0 x5_1).f2)], .agg #[.int .i64 ((rd_T98 l1 x5_1).f0), .int .i64 ((rd_T98 l1 x5_1).f1), .string ((rd_T98 l1 x5_1).f2)]] (by rfl) rfl rfl zG65 ?_
   with_reducible refine (laws_eqShift.calls ((rd_T98 l0 x5_1).f0) ((rd_T98 l0 x5_1).f1) ((rd_T98 l0 x5_1).f2) ((rd_T98 l1 x5_1).f0) ((rd_T98 l1 x5_1).f1) ((rd_T98 l1 x5_1).f2) true _ A7.out).mono ?_
   rintro e w10 ⟨rfl, hb⟩
   refine ⟨_, rfl, ?_⟩
   have n0_ := zb (zq zG76 hb)
   clear HB
   have HB := n0_
   clear n0_
   (try clear hb)
   (try clear hb2)
   (try clear hk)
   (try clear hi)
   refine hK.out _ _ ⟨((HB.out.cell (za w _ hw274_0)).trans hw274_0), ((HB.out.cell (za w _ hw274_1)).trans hw274_1), ((HB.out.cell (za w _ hw274_2)).trans hw274_2), ((HB.out.cell (za w _ hw275_0)).trans hw275_0), ((HB.out.cell (za w _ hw275_1)).trans hw275_1), ((HB.out.cell (za w _ hw275_2)).trans hw275_2)⟩ (fun hHeld => ?_)
   clear hK K
   refine norm_ (a' := ?_) ?_ ?_
   rotate_left
   ·show Act.put _ (some 25) _ = _
    simp only [Act.put, List.setIfInBounds_toArray, List.set_cons_zero, List.set_cons_succ, i64_w, i32_w]
    rfl
   refine pure_ (i := 9) (N := some 26) (v := ?_) (a' := ?_) b12A10 rfl rfl (any_of HT_.out zG96) (fun _ _ _ h => h) (Or.inl ⟨by rfl, ?_⟩) ?_ ?_
   rotate_left
   ·intro w'
    go_simp
    with_reducible rfl
   rotate_left
   ·simp only [Act.put, List.setIfInBounds_toArray, List.set_cons_zero, List.set_cons_succ, i64_w, i32_w]
    rfl
   refine done_ (done_of HT_.out zG96) ?_
   try go_wp2
   go_roundg k1
   case measure => have := HK1.out; omega
   case rel => exact ⟨(wrap64 (x5_1 + 1)), zG95, H', ⟨zH104⟩, ⟨zH79⟩⟩
/-! ### laws_eqStringS: function 82 -/
def laws_eqStringS.l0 : Nat → List ByteArray → List ByteArray → Int → Option (Bool)
 | 0, _, _, _ => none
 | k + 1, x0, x1, x5 => if x5 < (x0.length : Int) then (if 0 ≤ x5 then (if x5 < (x1.length : Int) then (if (rdOf ByteArray.empty x0 x5).toList = (rdOf ByteArray.empty x1 x5).toList then (laws_eqStringS.l0 k x0 x1 (wrap64 (x5 + 1))) else (some false)) else (none)) else (none)) else (some true)
def laws_eqStringS.f (k : Nat) (l0 : List ByteArray) (l1 : List ByteArray) : Option (Bool) := if (l0.length : Int) = (l1.length : Int) then (laws_eqStringS.l0 k l0 l1 0) else (some false)
theorem laws_eqStringS.mono_l : ∀ k, (∀ y0 y1 y2, LeO (laws_eqStringS.l0 k y0 y1 y2) (laws_eqStringS.l0 (k + 1) y0 y1 y2))
 | 0 => fun _ _ _ r h => by simp [laws_eqStringS.l0] at h
 | k + 1 => by
  have ih0 := laws_eqStringS.mono_l k
  ·intro y0 y1 y2
   unfold laws_eqStringS.l0
   repeat' first
   | (with_reducible exact ih0 _ _ _)
   | (with_reducible exact LeO.refl _)
   | (with_reducible exact LeO.none _)
   | (with_reducible refine LeO.ite ?_ ?_)
   | (with_reducible refine LeO.bind ?_ (fun _ => ?_))
   | exact ih0 _ _ _
   | exact LeO.none _
   | refine LeO.ite ?_ ?_
   | refine LeO.bind ?_ (fun _ => ?_)
theorem laws_eqStringS.mono : ∀ a0 a1 k, LeO (laws_eqStringS.f k a0 a1) (laws_eqStringS.f (k + 1) a0 a1) := by
 intro a0 a1 k
 have ih0 := laws_eqStringS.mono_l k
 unfold laws_eqStringS.f
 repeat' first
   | (with_reducible exact ih0 _ _ _)
   | (with_reducible exact LeO.refl _)
   | (with_reducible exact LeO.none _)
   | (with_reducible refine LeO.ite ?_ ?_)
   | (with_reducible refine LeO.bind ?_ (fun _ => ?_))
   | exact ih0 _ _ _
   | exact LeO.none _
   | refine LeO.ite ?_ ?_
   | refine LeO.bind ?_ (fun _ => ?_)
set_option maxHeartbeats 8000000 in
set_option maxRecDepth 100000 in
theorem laws_eqStringS.calls (k : Nat) (A0 : Option Addr) (c0 : Nat) (l0 : List ByteArray) (A1 : Option Addr) (c1 : Nat) (l1 : List ByteArray) (r : Bool) (w : World) (hr0 : Kd.C Kd.string w A0 l0.length l0) (hc0 : l0.length ≤ c0) (hr1 : Kd.C Kd.string w A1 l1.length l1) (hc1 : l1.length ≤ c1) (h : laws_eqStringS.f k l0 l1 = some r) :
  Calls Try.prog 82 #[.slice A0 l0.length c0, .slice A1 l1.length c1] w fun e w' => e = .returned (.bool r) ∧ Drawn0 w w' := by
 have HR0 := zb hr0
 have HC0 := zb hc0
 clear hr0 hc0
 have HR1 := zb hr1
 have HC1 := zb hc1
 clear hr1 hc1
 have H : (if (l0.length : Int) = (l1.length : Int) then (laws_eqStringS.l0 k l0 l1 0) else (some false)) = some r := h
 clear h
 by_cases c3 : (l0.length : Int) = (l1.length : Int)
 rotate_left
 ·rw [if_neg c3] at H
  have c3b0 : ((l0.length : Int) == (l1.length : Int)) = false := beq_eq_false_iff_ne.mpr c3
  have c3b1 : ((l0.length : Int) != (l1.length : Int)) = true := bne_iff_ne.mpr c3
  have c3b2 : (l0.length == l1.length) = false := by first | simpa using c3 | (simp at c3 ⊢; omega)
  obtain rfl := Option.some.inj H
  go_enter Try.func82, Try.ntmps82
  go_wp2
  repeat (go_quiet (fail); try go_wp2)
  go_ret
  exact zH68

 rw [if_pos c3] at H
 have c3b0 : ((l0.length : Int) == (l1.length : Int)) = true := beq_iff_eq.mpr c3
 have c3b1 : ((l0.length : Int) != (l1.length : Int)) = false := bne_eq_false_iff_eq.mpr c3
 have c3b2 : (l0.length == l1.length) = true := by first | simpa using c3 | (simp at c3 ⊢; omega)
 clear c3
 have H' := zb H
 clear H
 go_enter Try.func82, Try.ntmps82
 go_wp2
 repeat (go_quiet (fail); try go_wp2)
 go_loopg [5] k (fun kq v5 w' => ∃ (x5_1 : Int), v5 = .int .i64 x5_1 ∧ Aside0 (laws_eqStringS.l0 kq l0 l1 x5_1 = some r) ∧ Aside0 (kq ≤ k) ∧ Drawn0 w w')
 case atStart => exact ⟨(0), zG95, H', ⟨Nat.le_refl _⟩, zH95⟩
 case round =>
  clear H'
  try clear c1
  try clear p2
  try clear c3
  try clear c3b0
  try clear c3b1
  try clear c3b2
  obtain ⟨x5_1, rfl, HA, HK1, ⟨m1, rfl⟩⟩ := hrel
  cases gk with
  | zero => exact absurd HA.out (by simp [laws_eqStringS.l0])
  | succ k1 =>
   have H := HA.out
   clear HA
   simp only [laws_eqStringS.l0] at H
   by_cases c4 : x5_1 < (l0.length : Int)
   rotate_left
   ·rw [if_neg c4] at H
    have c4b0 := decide_eq_false c4
    clear c4
    obtain rfl := Option.some.inj H
    go_wp2
    repeat (go_quiet (fail); try go_wp2)
    go_ret
    exact zH68
   rw [if_pos c4] at H
   have c4b0 := decide_eq_true c4
   clear c4
   by_cases c5 : 0 ≤ x5_1
   rotate_left
   ·rw [if_neg c5] at H
    exact absurd H (by simp)
   rw [if_pos c5] at H
   have c5b0 := decide_eq_true c5
   clear c5
   by_cases c6 : x5_1 < (l1.length : Int)
   rotate_left
   ·rw [if_neg c6] at H
    exact absurd H (by simp)
   rw [if_pos c6] at H
   have c6b0 := decide_eq_true c6
   clear c6
   by_cases c7 : (rdOf ByteArray.empty l0 x5_1).toList = (rdOf ByteArray.empty l1 x5_1).toList
   rotate_left
   ·rw [if_neg c7] at H
    have c7b0 : ((rdOf ByteArray.empty l0 x5_1).toList == (rdOf ByteArray.empty l1 x5_1).toList) = false := beq_eq_false_iff_ne.mpr c7
    have c7b1 : ((rdOf ByteArray.empty l0 x5_1).toList != (rdOf ByteArray.empty l1 x5_1).toList) = true := bne_iff_ne.mpr c7
    obtain rfl := Option.some.inj H
    have p277 : 0 ≤ (x5_1 : Int) := zO
    have q277 : x5_1 < (l0.length : Int) := zO
    obtain ⟨ad277, e277, hx277_0⟩ := zam HR0.out x5_1 p277 q277
    cases e277
    replace p277 := eq_true p277
    replace q277 := eq_true q277
    have p278 : 0 ≤ (x5_1 : Int) := zO
    have q278 : x5_1 < (l1.length : Int) := zO
    obtain ⟨ad278, e278, hx278_0⟩ := zam HR1.out x5_1 p278 q278
    cases e278
    replace p278 := eq_true p278
    replace q278 := eq_true q278
    go_wp2
    repeat (go_quiet (fail); try go_wp2)
    go_ret
    exact zH68
   rw [if_pos c7] at H
   have c7b0 : ((rdOf ByteArray.empty l0 x5_1).toList == (rdOf ByteArray.empty l1 x5_1).toList) = true := beq_iff_eq.mpr c7
   have c7b1 : ((rdOf ByteArray.empty l0 x5_1).toList != (rdOf ByteArray.empty l1 x5_1).toList) = false := bne_eq_false_iff_eq.mpr c7
   clear c7
   have H' := zb H
   clear H
   have p277 : 0 ≤ (x5_1 : Int) := zO
   have q277 : x5_1 < (l0.length : Int) := zO
   obtain ⟨ad277, e277, hx277_0⟩ := zam HR0.out x5_1 p277 q277
   cases e277
   replace p277 := eq_true p277
   replace q277 := eq_true q277
   have p278 : 0 ≤ (x5_1 : Int) := zO
   have q278 : x5_1 < (l1.length : Int) := zO
   obtain ⟨ad278, e278, hx278_0⟩ := zam HR1.out x5_1 p278 q278
   cases e278
   replace p278 := eq_true p278
   replace q278 := eq_true q278
   go_wp2
   repeat (go_quiet (fail); try go_wp2)
   go_roundg k1
   case measure => have := HK1.out; omega
   case rel => exact ⟨(wrap64 (x5_1 + 1)), zG95, H', ⟨zH104⟩, zH95⟩
/-! ### laws_eqWorker: function 66 -/
def laws_eqWorker.f (k : Nat) (a0_0 : ByteArray) (a0_1 : Int) (a0_2 : Int) (a0_3 : Int) (l0_4 : List ByteArray) (a1_0 : ByteArray) (a1_1 : Int) (a1_2 : Int) (a1_3 : Int) (l1_4 : List ByteArray) : Option (Bool) := if a0_0.toList = a1_0.toList then (if a0_1 = a1_1 then (if a0_2 = a1_2 then (if a0_3 = a1_3 then ((laws_eqStringS.f k l0_4 l1_4).bind fun t281 => (if t281 = true then (some true) else (some false))) else (some false)) else (some false)) else (some false)) else (some false)
theorem laws_eqWorker.mono : ∀ a0 a1 a2 a3 a4 a5 a6 a7 a8 a9 k, LeO (laws_eqWorker.f k a0 a1 a2 a3 a4 a5 a6 a7 a8 a9) (laws_eqWorker.f (k + 1) a0 a1 a2 a3 a4 a5 a6 a7 a8 a9) := by
 intro a0 a1 a2 a3 a4 a5 a6 a7 a8 a9 k
 unfold laws_eqWorker.f
 repeat' first
   | (with_reducible exact laws_eqStringS.mono _ _ _)
   | (with_reducible exact LeO.refl _)
   | (with_reducible exact LeO.none _)
   | (with_reducible refine LeO.ite ?_ ?_)
   | (with_reducible refine LeO.bind ?_ (fun _ => ?_))
   | exact laws_eqStringS.mono _ _ _
   | exact LeO.none _
   | refine LeO.ite ?_ ?_
   | refine LeO.bind ?_ (fun _ => ?_)
set_option maxHeartbeats 8000000 in
set_option maxRecDepth 100000 in
theorem laws_eqWorker.calls (k : Nat) (a0_0 : ByteArray) (a0_1 : Int) (a0_2 : Int) (a0_3 : Int) (A0_4 : Option Addr) (c0_4 : Nat) (l0_4 : List ByteArray) (a1_0 : ByteArray) (a1_1 : Int) (a1_2 : Int) (a1_3 : Int) (A1_4 : Option Addr) (c1_4 : Nat) (l1_4 : List ByteArray) (r : Bool) (w : World) (hr0_4 : Kd.C Kd.string w A0_4 l0_4.length l0_4) (hc0_4 : l0_4.length ≤ c0_4) (hr1_4 : Kd.C Kd.string w A1_4 l1_4.length l1_4) (hc1_4 : l1_4.length ≤ c1_4) (h : laws_eqWorker.f k a0_0 a0_1 a0_2 a0_3 l0_4 a1_0 a1_1 a1_2 a1_3 l1_4 = some r) :
  Calls Try.prog 66 #[.agg #[.string a0_0, .int .i64 a0_1, .int .i64 a0_2, .int .i64 a0_3, .slice A0_4 l0_4.length c0_4], .agg #[.string a1_0, .int .i64 a1_1, .int .i64 a1_2, .int .i64 a1_3, .slice A1_4 l1_4.length c1_4]] w fun e w' => e = .returned (.bool r) ∧ Below w.heap.size w w' := by
 have hu100 := Try.underlying100
 have HR0_4 := zb hr0_4
 have HC0_4 := zb hc0_4
 clear hr0_4 hc0_4
 have HR1_4 := zb hr1_4
 have HC1_4 := zb hc1_4
 clear hr1_4 hc1_4
 have HB := zb (Below.refl w.heap.size w)
 have H : (if a0_0.toList = a1_0.toList then (if a0_1 = a1_1 then (if a0_2 = a1_2 then (if a0_3 = a1_3 then ((laws_eqStringS.f k l0_4 l1_4).bind fun t281 => (if t281 = true then (some true) else (some false))) else (some false)) else (some false)) else (some false)) else (some false)) = some r := h
 clear h
 by_cases c3 : a0_0.toList = a1_0.toList
 rotate_left
 ·rw [if_neg c3] at H
  have c3b0 : (a0_0.toList == a1_0.toList) = false := beq_eq_false_iff_ne.mpr c3
  have c3b1 : (a0_0.toList != a1_0.toList) = true := bne_iff_ne.mpr c3
  obtain rfl := Option.some.inj H
  go_enter Try.func66, Try.ntmps66
  go_wp2_with (first | ((with_reducible refine gate_dst (N := 2) rfl ?_); refine box_event ?hg (N := 2) ?hd (cs := #[.string a0_0, .int .i64 a0_1, .int .i64 a0_2, .int .i64 a0_3, .slice A0_4 l0_4.length c0_4]) (t := 100) ?hr ?_; (case hd => rfl); (case hg => rfl); (case hr => exact zH100); intro gb279 hg w34 hbox hb; have n_ := zA_ (zb (zq zG76 hb)) (zA_ (zb (hbox)) (zA_ (zb ((by rw [hg]; exact (zo zG76) : w.heap.size ≤ gb279))) (zb ((by rw [hg]; exact (zo zG76) : w.heap.size ≤ gb279))))); clear HB; obtain ⟨HB, BK279, GW279, GE279⟩ := n_; clear hb hbox hg) | ((with_reducible refine gate_dst (N := 3) rfl ?_); refine box_event ?hg (N := 3) ?hd (cs := #[.string a1_0, .int .i64 a1_1, .int .i64 a1_2, .int .i64 a1_3, .slice A1_4 l1_4.length c1_4]) (t := 100) ?hr ?_; (case hd => rfl); (case hg => rfl); (case hr => exact zH100); intro gb280 hg w35 hbox hb; have n_ := zA_ (zb (zu (g := gb279) (o := .cells #[.string a0_0, .int .i64 a0_1, .int .i64 a0_2, .int .i64 a0_3, .slice A0_4 l0_4.length c0_4] 100 (0, 0)) zG79 hb)) (zA_ (zb (zq zG70 hb)) (zA_ (zb (hbox)) (zA_ (zb ((by rw [hg]; exact (zo zG70) : w.heap.size ≤ gb280))) (zA_ (zb ((by rw [hg]; exact (zo zG70) : w.heap.size ≤ gb280))) (zA_ (zb ((by rw [hg]; exact Nat.ne_of_lt (zae (g := gb279) (o := .cells #[.string a0_0, .int .i64 a0_1, .int .i64 a0_2, .int .i64 a0_3, .slice A0_4 l0_4.length c0_4] 100 (0, 0)) zG79) : gb279 ≠ gb280))) (zb ((by rw [hg]; exact Nat.ne_of_gt (zae (g := gb279) (o := .cells #[.string a0_0, .int .i64 a0_1, .int .i64 a0_2, .int .i64 a0_3, .slice A0_4 l0_4.length c0_4] 100 (0, 0)) zG79) : gb280 ≠ gb279)))))))); clear BK279 HB; obtain ⟨BK279, HB, BK280, GW280, GE280, NB279_280, NB280_279⟩ := n_; clear hb hbox hg; have hnb36 := NB279_280.out; have hnc36 := NB280_279.out; have hcz37_0 : w35.cell? ⟨gb279, 0, none⟩ = some (.string a0_0) := (zg BK279.out 0).trans rfl; have hcz37_1 : w35.cell? ⟨gb279, 1, none⟩ = some (.int .i64 a0_1) := (zg BK279.out 1).trans rfl; have hcz37_2 : w35.cell? ⟨gb279, 2, none⟩ = some (.int .i64 a0_2) := (zg BK279.out 2).trans rfl; have hcz37_3 : w35.cell? ⟨gb279, 3, none⟩ = some (.int .i64 a0_3) := (zg BK279.out 3).trans rfl; have hcz37_4 : w35.cell? ⟨gb279, 4, none⟩ = some (.slice A0_4 l0_4.length c0_4) := (zg BK279.out 4).trans rfl; have hfz37_0 := zf BK279.out 0; have hfz37_1 := zf BK279.out 1; have hfz37_2 := zf BK279.out 2; have hfz37_3 := zf BK279.out 3; have hfz37_4 := zf BK279.out 4; have hcz38_0 : w35.cell? ⟨gb280, 0, none⟩ = some (.string a1_0) := (zg BK280.out 0).trans rfl; have hcz38_1 : w35.cell? ⟨gb280, 1, none⟩ = some (.int .i64 a1_1) := (zg BK280.out 1).trans rfl; have hcz38_2 : w35.cell? ⟨gb280, 2, none⟩ = some (.int .i64 a1_2) := (zg BK280.out 2).trans rfl; have hcz38_3 : w35.cell? ⟨gb280, 3, none⟩ = some (.int .i64 a1_3) := (zg BK280.out 3).trans rfl; have hcz38_4 : w35.cell? ⟨gb280, 4, none⟩ = some (.slice A1_4 l1_4.length c1_4) := (zg BK280.out 4).trans rfl; have hfz38_0 := zf BK280.out 0; have hfz38_1 := zf BK280.out 1; have hfz38_2 := zf BK280.out 2; have hfz38_3 := zf BK280.out 3; have hfz38_4 := zf BK280.out 4))
  go_ret
  exact zH15

 rw [if_pos c3] at H
 have c3b0 : (a0_0.toList == a1_0.toList) = true := beq_iff_eq.mpr c3
 have c3b1 : (a0_0.toList != a1_0.toList) = false := bne_eq_false_iff_eq.mpr c3
 clear c3
 by_cases c4 : a0_1 = a1_1
 rotate_left
 ·rw [if_neg c4] at H
  have c4b0 : (a0_1 == a1_1) = false := beq_eq_false_iff_ne.mpr c4
  have c4b1 : (a0_1 != a1_1) = true := bne_iff_ne.mpr c4
  obtain rfl := Option.some.inj H
  go_enter Try.func66, Try.ntmps66
  go_wp2_with (first | ((with_reducible refine gate_dst (N := 2) rfl ?_); refine box_event ?hg (N := 2) ?hd (cs := #[.string a0_0, .int .i64 a0_1, .int .i64 a0_2, .int .i64 a0_3, .slice A0_4 l0_4.length c0_4]) (t := 100) ?hr ?_; (case hd => rfl); (case hg => rfl); (case hr => exact zH100); intro gb279 hg w29 hbox hb; have n_ := zA_ (zb (zq zG76 hb)) (zA_ (zb (hbox)) (zA_ (zb ((by rw [hg]; exact (zo zG76) : w.heap.size ≤ gb279))) (zb ((by rw [hg]; exact (zo zG76) : w.heap.size ≤ gb279))))); clear HB; obtain ⟨HB, BK279, GW279, GE279⟩ := n_; clear hb hbox hg) | ((with_reducible refine gate_dst (N := 3) rfl ?_); refine box_event ?hg (N := 3) ?hd (cs := #[.string a1_0, .int .i64 a1_1, .int .i64 a1_2, .int .i64 a1_3, .slice A1_4 l1_4.length c1_4]) (t := 100) ?hr ?_; (case hd => rfl); (case hg => rfl); (case hr => exact zH100); intro gb280 hg w30 hbox hb; have n_ := zA_ (zb (zu (g := gb279) (o := .cells #[.string a0_0, .int .i64 a0_1, .int .i64 a0_2, .int .i64 a0_3, .slice A0_4 l0_4.length c0_4] 100 (0, 0)) zG79 hb)) (zA_ (zb (zq zG70 hb)) (zA_ (zb (hbox)) (zA_ (zb ((by rw [hg]; exact (zo zG70) : w.heap.size ≤ gb280))) (zA_ (zb ((by rw [hg]; exact (zo zG70) : w.heap.size ≤ gb280))) (zA_ (zb ((by rw [hg]; exact Nat.ne_of_lt (zae (g := gb279) (o := .cells #[.string a0_0, .int .i64 a0_1, .int .i64 a0_2, .int .i64 a0_3, .slice A0_4 l0_4.length c0_4] 100 (0, 0)) zG79) : gb279 ≠ gb280))) (zb ((by rw [hg]; exact Nat.ne_of_gt (zae (g := gb279) (o := .cells #[.string a0_0, .int .i64 a0_1, .int .i64 a0_2, .int .i64 a0_3, .slice A0_4 l0_4.length c0_4] 100 (0, 0)) zG79) : gb280 ≠ gb279)))))))); clear BK279 HB; obtain ⟨BK279, HB, BK280, GW280, GE280, NB279_280, NB280_279⟩ := n_; clear hb hbox hg; have hnb31 := NB279_280.out; have hnc31 := NB280_279.out; have hcz32_0 : w30.cell? ⟨gb279, 0, none⟩ = some (.string a0_0) := (zg BK279.out 0).trans rfl; have hcz32_1 : w30.cell? ⟨gb279, 1, none⟩ = some (.int .i64 a0_1) := (zg BK279.out 1).trans rfl; have hcz32_2 : w30.cell? ⟨gb279, 2, none⟩ = some (.int .i64 a0_2) := (zg BK279.out 2).trans rfl; have hcz32_3 : w30.cell? ⟨gb279, 3, none⟩ = some (.int .i64 a0_3) := (zg BK279.out 3).trans rfl; have hcz32_4 : w30.cell? ⟨gb279, 4, none⟩ = some (.slice A0_4 l0_4.length c0_4) := (zg BK279.out 4).trans rfl; have hfz32_0 := zf BK279.out 0; have hfz32_1 := zf BK279.out 1; have hfz32_2 := zf BK279.out 2; have hfz32_3 := zf BK279.out 3; have hfz32_4 := zf BK279.out 4; have hcz33_0 : w30.cell? ⟨gb280, 0, none⟩ = some (.string a1_0) := (zg BK280.out 0).trans rfl; have hcz33_1 : w30.cell? ⟨gb280, 1, none⟩ = some (.int .i64 a1_1) := (zg BK280.out 1).trans rfl; have hcz33_2 : w30.cell? ⟨gb280, 2, none⟩ = some (.int .i64 a1_2) := (zg BK280.out 2).trans rfl; have hcz33_3 : w30.cell? ⟨gb280, 3, none⟩ = some (.int .i64 a1_3) := (zg BK280.out 3).trans rfl; have hcz33_4 : w30.cell? ⟨gb280, 4, none⟩ = some (.slice A1_4 l1_4.length c1_4) := (zg BK280.out 4).trans rfl; have hfz33_0 := zf BK280.out 0; have hfz33_1 := zf BK280.out 1; have hfz33_2 := zf BK280.out 2; have hfz33_3 := zf BK280.out 3; have hfz33_4 := zf BK280.out 4))
  go_ret
  exact zH15
 rw [if_pos c4] at H
 have c4b0 : (a0_1 == a1_1) = true := beq_iff_eq.mpr c4
 have c4b1 : (a0_1 != a1_1) = false := bne_eq_false_iff_eq.mpr c4
 clear c4
 by_cases c5 : a0_2 = a1_2
 rotate_left
 ·rw [if_neg c5] at H
  have c5b0 : (a0_2 == a1_2) = false := beq_eq_false_iff_ne.mpr c5
  have c5b1 : (a0_2 != a1_2) = true := bne_iff_ne.mpr c5
  obtain rfl := Option.some.inj H
  go_enter Try.func66, Try.ntmps66
  go_wp2_with (first | ((with_reducible refine gate_dst (N := 2) rfl ?_); refine box_event ?hg (N := 2) ?hd (cs := #[.string a0_0, .int .i64 a0_1, .int .i64 a0_2, .int .i64 a0_3, .slice A0_4 l0_4.length c0_4]) (t := 100) ?hr ?_; (case hd => rfl); (case hg => rfl); (case hr => exact zH100); intro gb279 hg w24 hbox hb; have n_ := zA_ (zb (zq zG76 hb)) (zA_ (zb (hbox)) (zA_ (zb ((by rw [hg]; exact (zo zG76) : w.heap.size ≤ gb279))) (zb ((by rw [hg]; exact (zo zG76) : w.heap.size ≤ gb279))))); clear HB; obtain ⟨HB, BK279, GW279, GE279⟩ := n_; clear hb hbox hg) | ((with_reducible refine gate_dst (N := 3) rfl ?_); refine box_event ?hg (N := 3) ?hd (cs := #[.string a1_0, .int .i64 a1_1, .int .i64 a1_2, .int .i64 a1_3, .slice A1_4 l1_4.length c1_4]) (t := 100) ?hr ?_; (case hd => rfl); (case hg => rfl); (case hr => exact zH100); intro gb280 hg w25 hbox hb; have n_ := zA_ (zb (zu (g := gb279) (o := .cells #[.string a0_0, .int .i64 a0_1, .int .i64 a0_2, .int .i64 a0_3, .slice A0_4 l0_4.length c0_4] 100 (0, 0)) zG79 hb)) (zA_ (zb (zq zG70 hb)) (zA_ (zb (hbox)) (zA_ (zb ((by rw [hg]; exact (zo zG70) : w.heap.size ≤ gb280))) (zA_ (zb ((by rw [hg]; exact (zo zG70) : w.heap.size ≤ gb280))) (zA_ (zb ((by rw [hg]; exact Nat.ne_of_lt (zae (g := gb279) (o := .cells #[.string a0_0, .int .i64 a0_1, .int .i64 a0_2, .int .i64 a0_3, .slice A0_4 l0_4.length c0_4] 100 (0, 0)) zG79) : gb279 ≠ gb280))) (zb ((by rw [hg]; exact Nat.ne_of_gt (zae (g := gb279) (o := .cells #[.string a0_0, .int .i64 a0_1, .int .i64 a0_2, .int .i64 a0_3, .slice A0_4 l0_4.length c0_4] 100 (0, 0)) zG79) : gb280 ≠ gb279)))))))); clear BK279 HB; obtain ⟨BK279, HB, BK280, GW280, GE280, NB279_280, NB280_279⟩ := n_; clear hb hbox hg; have hnb26 := NB279_280.out; have hnc26 := NB280_279.out; have hcz27_0 : w25.cell? ⟨gb279, 0, none⟩ = some (.string a0_0) := (zg BK279.out 0).trans rfl; have hcz27_1 : w25.cell? ⟨gb279, 1, none⟩ = some (.int .i64 a0_1) := (zg BK279.out 1).trans rfl; have hcz27_2 : w25.cell? ⟨gb279, 2, none⟩ = some (.int .i64 a0_2) := (zg BK279.out 2).trans rfl; have hcz27_3 : w25.cell? ⟨gb279, 3, none⟩ = some (.int .i64 a0_3) := (zg BK279.out 3).trans rfl; have hcz27_4 : w25.cell? ⟨gb279, 4, none⟩ = some (.slice A0_4 l0_4.length c0_4) := (zg BK279.out 4).trans rfl; have hfz27_0 := zf BK279.out 0; have hfz27_1 := zf BK279.out 1; have hfz27_2 := zf BK279.out 2; have hfz27_3 := zf BK279.out 3; have hfz27_4 := zf BK279.out 4; have hcz28_0 : w25.cell? ⟨gb280, 0, none⟩ = some (.string a1_0) := (zg BK280.out 0).trans rfl; have hcz28_1 : w25.cell? ⟨gb280, 1, none⟩ = some (.int .i64 a1_1) := (zg BK280.out 1).trans rfl; have hcz28_2 : w25.cell? ⟨gb280, 2, none⟩ = some (.int .i64 a1_2) := (zg BK280.out 2).trans rfl; have hcz28_3 : w25.cell? ⟨gb280, 3, none⟩ = some (.int .i64 a1_3) := (zg BK280.out 3).trans rfl; have hcz28_4 : w25.cell? ⟨gb280, 4, none⟩ = some (.slice A1_4 l1_4.length c1_4) := (zg BK280.out 4).trans rfl; have hfz28_0 := zf BK280.out 0; have hfz28_1 := zf BK280.out 1; have hfz28_2 := zf BK280.out 2; have hfz28_3 := zf BK280.out 3; have hfz28_4 := zf BK280.out 4))
  go_ret
  exact zH15
 rw [if_pos c5] at H
 have c5b0 : (a0_2 == a1_2) = true := beq_iff_eq.mpr c5
 have c5b1 : (a0_2 != a1_2) = false := bne_eq_false_iff_eq.mpr c5
 clear c5
 by_cases c6 : a0_3 = a1_3
 rotate_left
 ·rw [if_neg c6] at H
  have c6b0 : (a0_3 == a1_3) = false := beq_eq_false_iff_ne.mpr c6
  have c6b1 : (a0_3 != a1_3) = true := bne_iff_ne.mpr c6
  obtain rfl := Option.some.inj H
  go_enter Try.func66, Try.ntmps66
  go_wp2_with (first | ((with_reducible refine gate_dst (N := 2) rfl ?_); refine box_event ?hg (N := 2) ?hd (cs := #[.string a0_0, .int .i64 a0_1, .int .i64 a0_2, .int .i64 a0_3, .slice A0_4 l0_4.length c0_4]) (t := 100) ?hr ?_; (case hd => rfl); (case hg => rfl); (case hr => exact zH100); intro gb279 hg w19 hbox hb; have n_ := zA_ (zb (zq zG76 hb)) (zA_ (zb (hbox)) (zA_ (zb ((by rw [hg]; exact (zo zG76) : w.heap.size ≤ gb279))) (zb ((by rw [hg]; exact (zo zG76) : w.heap.size ≤ gb279))))); clear HB; obtain ⟨HB, BK279, GW279, GE279⟩ := n_; clear hb hbox hg) | ((with_reducible refine gate_dst (N := 3) rfl ?_); refine box_event ?hg (N := 3) ?hd (cs := #[.string a1_0, .int .i64 a1_1, .int .i64 a1_2, .int .i64 a1_3, .slice A1_4 l1_4.length c1_4]) (t := 100) ?hr ?_; (case hd => rfl); (case hg => rfl); (case hr => exact zH100); intro gb280 hg w20 hbox hb; have n_ := zA_ (zb (zu (g := gb279) (o := .cells #[.string a0_0, .int .i64 a0_1, .int .i64 a0_2, .int .i64 a0_3, .slice A0_4 l0_4.length c0_4] 100 (0, 0)) zG79 hb)) (zA_ (zb (zq zG70 hb)) (zA_ (zb (hbox)) (zA_ (zb ((by rw [hg]; exact (zo zG70) : w.heap.size ≤ gb280))) (zA_ (zb ((by rw [hg]; exact (zo zG70) : w.heap.size ≤ gb280))) (zA_ (zb ((by rw [hg]; exact Nat.ne_of_lt (zae (g := gb279) (o := .cells #[.string a0_0, .int .i64 a0_1, .int .i64 a0_2, .int .i64 a0_3, .slice A0_4 l0_4.length c0_4] 100 (0, 0)) zG79) : gb279 ≠ gb280))) (zb ((by rw [hg]; exact Nat.ne_of_gt (zae (g := gb279) (o := .cells #[.string a0_0, .int .i64 a0_1, .int .i64 a0_2, .int .i64 a0_3, .slice A0_4 l0_4.length c0_4] 100 (0, 0)) zG79) : gb280 ≠ gb279)))))))); clear BK279 HB; obtain ⟨BK279, HB, BK280, GW280, GE280, NB279_280, NB280_279⟩ := n_; clear hb hbox hg; have hnb21 := NB279_280.out; have hnc21 := NB280_279.out; have hcz22_0 : w20.cell? ⟨gb279, 0, none⟩ = some (.string a0_0) := (zg BK279.out 0).trans rfl; have hcz22_1 : w20.cell? ⟨gb279, 1, none⟩ = some (.int .i64 a0_1) := (zg BK279.out 1).trans rfl; have hcz22_2 : w20.cell? ⟨gb279, 2, none⟩ = some (.int .i64 a0_2) := (zg BK279.out 2).trans rfl; have hcz22_3 : w20.cell? ⟨gb279, 3, none⟩ = some (.int .i64 a0_3) := (zg BK279.out 3).trans rfl; have hcz22_4 : w20.cell? ⟨gb279, 4, none⟩ = some (.slice A0_4 l0_4.length c0_4) := (zg BK279.out 4).trans rfl; have hfz22_0 := zf BK279.out 0; have hfz22_1 := zf BK279.out 1; have hfz22_2 := zf BK279.out 2; have hfz22_3 := zf BK279.out 3; have hfz22_4 := zf BK279.out 4; have hcz23_0 : w20.cell? ⟨gb280, 0, none⟩ = some (.string a1_0) := (zg BK280.out 0).trans rfl; have hcz23_1 : w20.cell? ⟨gb280, 1, none⟩ = some (.int .i64 a1_1) := (zg BK280.out 1).trans rfl; have hcz23_2 : w20.cell? ⟨gb280, 2, none⟩ = some (.int .i64 a1_2) := (zg BK280.out 2).trans rfl; have hcz23_3 : w20.cell? ⟨gb280, 3, none⟩ = some (.int .i64 a1_3) := (zg BK280.out 3).trans rfl; have hcz23_4 : w20.cell? ⟨gb280, 4, none⟩ = some (.slice A1_4 l1_4.length c1_4) := (zg BK280.out 4).trans rfl; have hfz23_0 := zf BK280.out 0; have hfz23_1 := zf BK280.out 1; have hfz23_2 := zf BK280.out 2; have hfz23_3 := zf BK280.out 3; have hfz23_4 := zf BK280.out 4))
  go_ret
  exact zH15
 rw [if_pos c6] at H
 have c6b0 : (a0_3 == a1_3) = true := beq_iff_eq.mpr c6
 have c6b1 : (a0_3 != a1_3) = false := bne_eq_false_iff_eq.mpr c6
 clear c6
 replace H := Option.bind_eq_some_iff.mp H
 obtain ⟨t281, A70, H⟩ := H
 replace H : (if t281 = true then (some true) else (some false)) = some r := H
 have A7 := zb A70
 clear A70
 by_cases c8 : t281 = true
 ·subst c8
  have H1 : (some true) = some r := by rw [if_pos rfl] at H; exact H
  clear H
  have H := H1
  clear H1
  obtain rfl := Option.some.inj H
  go_enter Try.func66, Try.ntmps66
  go_wp2_with (first | ((with_reducible refine gate_dst (N := 2) rfl ?_); refine box_event ?hg (N := 2) ?hd (cs := #[.string a0_0, .int .i64 a0_1, .int .i64 a0_2, .int .i64 a0_3, .slice A0_4 l0_4.length c0_4]) (t := 100) ?hr ?_; (case hd => rfl); (case hg => rfl); (case hr => exact zH100); intro gb279 hg w9 hbox hb; have n_ := zA_ (zb (zq zG76 hb)) (zA_ (zb (hbox)) (zA_ (zb ((by rw [hg]; exact (zo zG76) : w.heap.size ≤ gb279))) (zb ((by rw [hg]; exact (zo zG76) : w.heap.size ≤ gb279))))); clear HB; obtain ⟨HB, BK279, GW279, GE279⟩ := n_; clear hb hbox hg) | ((with_reducible refine gate_dst (N := 3) rfl ?_); refine box_event ?hg (N := 3) ?hd (cs := #[.string a1_0, .int .i64 a1_1, .int .i64 a1_2, .int .i64 a1_3, .slice A1_4 l1_4.length c1_4]) (t := 100) ?hr ?_; (case hd => rfl); (case hg => rfl); (case hr => exact zH100); intro gb280 hg w10 hbox hb; have n_ := zA_ (zb (zu (g := gb279) (o := .cells #[.string a0_0, .int .i64 a0_1, .int .i64 a0_2, .int .i64 a0_3, .slice A0_4 l0_4.length c0_4] 100 (0, 0)) zG79 hb)) (zA_ (zb (zq zG70 hb)) (zA_ (zb (hbox)) (zA_ (zb ((by rw [hg]; exact (zo zG70) : w.heap.size ≤ gb280))) (zA_ (zb ((by rw [hg]; exact (zo zG70) : w.heap.size ≤ gb280))) (zA_ (zb ((by rw [hg]; exact Nat.ne_of_lt (zae (g := gb279) (o := .cells #[.string a0_0, .int .i64 a0_1, .int .i64 a0_2, .int .i64 a0_3, .slice A0_4 l0_4.length c0_4] 100 (0, 0)) zG79) : gb279 ≠ gb280))) (zb ((by rw [hg]; exact Nat.ne_of_gt (zae (g := gb279) (o := .cells #[.string a0_0, .int .i64 a0_1, .int .i64 a0_2, .int .i64 a0_3, .slice A0_4 l0_4.length c0_4] 100 (0, 0)) zG79) : gb280 ≠ gb279)))))))); clear BK279 HB; obtain ⟨BK279, HB, BK280, GW280, GE280, NB279_280, NB280_279⟩ := n_; clear hb hbox hg; have hnb11 := NB279_280.out; have hnc11 := NB280_279.out; have hcz12_0 : w10.cell? ⟨gb279, 0, none⟩ = some (.string a0_0) := (zg BK279.out 0).trans rfl; have hcz12_1 : w10.cell? ⟨gb279, 1, none⟩ = some (.int .i64 a0_1) := (zg BK279.out 1).trans rfl; have hcz12_2 : w10.cell? ⟨gb279, 2, none⟩ = some (.int .i64 a0_2) := (zg BK279.out 2).trans rfl; have hcz12_3 : w10.cell? ⟨gb279, 3, none⟩ = some (.int .i64 a0_3) := (zg BK279.out 3).trans rfl; have hcz12_4 : w10.cell? ⟨gb279, 4, none⟩ = some (.slice A0_4 l0_4.length c0_4) := (zg BK279.out 4).trans rfl; have hfz12_0 := zf BK279.out 0; have hfz12_1 := zf BK279.out 1; have hfz12_2 := zf BK279.out 2; have hfz12_3 := zf BK279.out 3; have hfz12_4 := zf BK279.out 4; have hcz13_0 : w10.cell? ⟨gb280, 0, none⟩ = some (.string a1_0) := (zg BK280.out 0).trans rfl; have hcz13_1 : w10.cell? ⟨gb280, 1, none⟩ = some (.int .i64 a1_1) := (zg BK280.out 1).trans rfl; have hcz13_2 : w10.cell? ⟨gb280, 2, none⟩ = some (.int .i64 a1_2) := (zg BK280.out 2).trans rfl; have hcz13_3 : w10.cell? ⟨gb280, 3, none⟩ = some (.int .i64 a1_3) := (zg BK280.out 3).trans rfl; have hcz13_4 : w10.cell? ⟨gb280, 4, none⟩ = some (.slice A1_4 l1_4.length c1_4) := (zg BK280.out 4).trans rfl; have hfz13_0 := zf BK280.out 0; have hfz13_1 := zf BK280.out 1; have hfz13_2 := zf BK280.out 2; have hfz13_3 := zf BK280.out 3; have hfz13_4 := zf BK280.out 4) | ((with_reducible refine gate_callee (f := 82) rfl ?_); refine goesL_ (some 29) rfl rfl Try.func82 zG96 rfl #[.slice A0_4 l0_4.length c0_4, .slice A1_4 l1_4.length c1_4] rfl zG65 ?_; (with_reducible refine (laws_eqStringS.calls k _ _ l0_4 _ _ l1_4 true _ ?side1 ?side2 ?side3 ?side4 A7.out).mono ?_); (case side1 => exact zH44); (case side2 => exact HC0_4.out); (case side3 => exact zH42); (case side4 => exact HC1_4.out); rintro e w' ⟨rfl, ⟨nd, rfl⟩⟩; refine ⟨_, rfl, ?_⟩))
  go_ret
  exact zH15
 replace c8 := Bool.eq_false_iff.mpr c8
 subst c8
 have H1 : (some false) = some r := by rw [if_neg (show ¬ (false = true) by decide)] at H; exact H
 clear H
 have H := H1
 clear H1
 obtain rfl := Option.some.inj H
 go_enter Try.func66, Try.ntmps66
 go_wp2_with (first | ((with_reducible refine gate_dst (N := 2) rfl ?_); refine box_event ?hg (N := 2) ?hd (cs := #[.string a0_0, .int .i64 a0_1, .int .i64 a0_2, .int .i64 a0_3, .slice A0_4 l0_4.length c0_4]) (t := 100) ?hr ?_; (case hd => rfl); (case hg => rfl); (case hr => exact zH100); intro gb279 hg w14 hbox hb; have n_ := zA_ (zb (zq zG76 hb)) (zA_ (zb (hbox)) (zA_ (zb ((by rw [hg]; exact (zo zG76) : w.heap.size ≤ gb279))) (zb ((by rw [hg]; exact (zo zG76) : w.heap.size ≤ gb279))))); clear HB; obtain ⟨HB, BK279, GW279, GE279⟩ := n_; clear hb hbox hg) | ((with_reducible refine gate_dst (N := 3) rfl ?_); refine box_event ?hg (N := 3) ?hd (cs := #[.string a1_0, .int .i64 a1_1, .int .i64 a1_2, .int .i64 a1_3, .slice A1_4 l1_4.length c1_4]) (t := 100) ?hr ?_; (case hd => rfl); (case hg => rfl); (case hr => exact zH100); intro gb280 hg w15 hbox hb; have n_ := zA_ (zb (zu (g := gb279) (o := .cells #[.string a0_0, .int .i64 a0_1, .int .i64 a0_2, .int .i64 a0_3, .slice A0_4 l0_4.length c0_4] 100 (0, 0)) zG79 hb)) (zA_ (zb (zq zG70 hb)) (zA_ (zb (hbox)) (zA_ (zb ((by rw [hg]; exact (zo zG70) : w.heap.size ≤ gb280))) (zA_ (zb ((by rw [hg]; exact (zo zG70) : w.heap.size ≤ gb280))) (zA_ (zb ((by rw [hg]; exact Nat.ne_of_lt (zae (g := gb279) (o := .cells #[.string a0_0, .int .i64 a0_1, .int .i64 a0_2, .int .i64 a0_3, .slice A0_4 l0_4.length c0_4] 100 (0, 0)) zG79) : gb279 ≠ gb280))) (zb ((by rw [hg]; exact Nat.ne_of_gt (zae (g := gb279) (o := .cells #[.string a0_0, .int .i64 a0_1, .int .i64 a0_2, .int .i64 a0_3, .slice A0_4 l0_4.length c0_4] 100 (0, 0)) zG79) : gb280 ≠ gb279)))))))); clear BK279 HB; obtain ⟨BK279, HB, BK280, GW280, GE280, NB279_280, NB280_279⟩ := n_; clear hb hbox hg; have hnb16 := NB279_280.out; have hnc16 := NB280_279.out; have hcz17_0 : w15.cell? ⟨gb279, 0, none⟩ = some (.string a0_0) := (zg BK279.out 0).trans rfl; have hcz17_1 : w15.cell? ⟨gb279, 1, none⟩ = some (.int .i64 a0_1) := (zg BK279.out 1).trans rfl; have hcz17_2 : w15.cell? ⟨gb279, 2, none⟩ = some (.int .i64 a0_2) := (zg BK279.out 2).trans rfl; have hcz17_3 : w15.cell? ⟨gb279, 3, none⟩ = some (.int .i64 a0_3) := (zg BK279.out 3).trans rfl; have hcz17_4 : w15.cell? ⟨gb279, 4, none⟩ = some (.slice A0_4 l0_4.length c0_4) := (zg BK279.out 4).trans rfl; have hfz17_0 := zf BK279.out 0; have hfz17_1 := zf BK279.out 1; have hfz17_2 := zf BK279.out 2; have hfz17_3 := zf BK279.out 3; have hfz17_4 := zf BK279.out 4; have hcz18_0 : w15.cell? ⟨gb280, 0, none⟩ = some (.string a1_0) := (zg BK280.out 0).trans rfl; have hcz18_1 : w15.cell? ⟨gb280, 1, none⟩ = some (.int .i64 a1_1) := (zg BK280.out 1).trans rfl; have hcz18_2 : w15.cell? ⟨gb280, 2, none⟩ = some (.int .i64 a1_2) := (zg BK280.out 2).trans rfl; have hcz18_3 : w15.cell? ⟨gb280, 3, none⟩ = some (.int .i64 a1_3) := (zg BK280.out 3).trans rfl; have hcz18_4 : w15.cell? ⟨gb280, 4, none⟩ = some (.slice A1_4 l1_4.length c1_4) := (zg BK280.out 4).trans rfl; have hfz18_0 := zf BK280.out 0; have hfz18_1 := zf BK280.out 1; have hfz18_2 := zf BK280.out 2; have hfz18_3 := zf BK280.out 3; have hfz18_4 := zf BK280.out 4) | ((with_reducible refine gate_callee (f := 82) rfl ?_); refine goesL_ (some 29) rfl rfl Try.func82 zG96 rfl #[.slice A0_4 l0_4.length c0_4, .slice A1_4 l1_4.length c1_4] rfl zG65 ?_; (with_reducible refine (laws_eqStringS.calls k _ _ l0_4 _ _ l1_4 false _ ?side1 ?side2 ?side3 ?side4 A7.out).mono ?_); (case side1 => exact zH44); (case side2 => exact HC0_4.out); (case side3 => exact zH42); (case side4 => exact HC1_4.out); rintro e w' ⟨rfl, ⟨nd, rfl⟩⟩; refine ⟨_, rfl, ?_⟩))
 go_ret
 exact zH15
end Go.Proofs.Ytjibigpdbpipcaa.R
