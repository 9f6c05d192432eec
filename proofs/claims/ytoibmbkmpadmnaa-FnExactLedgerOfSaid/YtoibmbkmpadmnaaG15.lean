-- squeezed
-- made by pp.py (wip/tools) out of the translation; Lean checks it
import Derived.Test.YtoibmbkmpadmnaaG0
import Derived.Test.YtoibmbkmpadmnaaG13
namespace Go.Proofs.Ytoibmbkmpadmnaa.G
open Go.RowKit Go.Proofs.YtoibmbkmpadmnaaW.PrintWords Go.Proofs.YtoibmbkmpadmnaaW.PrintLast Go.Proofs.YtoibmbkmpadmnaaW.PrintMore
attribute [local go_sem] max2_int min2_int max_two min_two max_three min_three max_four min_four   -- for this text's walks alone
set_option linter.unusedVariables false
set_option linter.unusedSimpArgs false

abbrev b15A0 := zM 8 0
abbrev b15A1 := zM 8 1
abbrev b15A2 := zM 8 3
abbrev b15A3 := zM 8 7
abbrev b15A4 := zM 8 15
abbrev b15A5 := zM 8 47
abbrev b15A6 := zM 8 63
abbrev b15A7 := zM 8 127
abbrev b15A8 := zM 8 255
/-! ### laws_heldCardS: function 40 -/
def laws_heldCardS.l0 : Nat → List (S39) → Int → Int → Option (Int)
 | 0, _, _, _ => none
 | k + 1, x0, x1, x5 => if x5 < (x0.length : Int) then (if 0 ≤ x5 then ((laws_markText.f k x1).bind fun t252 => (if ((rd_T39 x0 x5).f0).toList = t252.toList then (if ((rd_T39 x0 x5).f1) = (wrap64 (x1 + 1)) then (if ((rd_T39 x0 x5).f2) = (wrap64 ((wrap64 (x1 + 1)) + 1)) then (if ((rd_T39 x0 x5).f3) = (wrap64 ((wrap64 ((wrap64 (x1 + 1)) + 1)) + 1)) then (laws_heldCardS.l0 k x0 (wrap64 ((wrap64 ((wrap64 ((wrap64 (x1 + 1)) + 1)) + 1)) + 1)) (wrap64 (x5 + 1))) else (some (-1))) else (some (-1))) else (some (-1))) else (some (-1)))) else (none)) else (some x1)
def laws_heldCardS.f (k : Nat) (l0 : List (S39)) (a1 : Int) : Option (Int) := laws_heldCardS.l0 k l0 a1 0
theorem laws_heldCardS.mono_l : ∀ k, (∀ y0 y1 y2, LeO (laws_heldCardS.l0 k y0 y1 y2) (laws_heldCardS.l0 (k + 1) y0 y1 y2))
 | 0 => fun _ _ _ r h => by simp [laws_heldCardS.l0] at h
 | k + 1 => by
  have ih0 := laws_heldCardS.mono_l k
  ·intro y0 y1 y2
   unfold laws_heldCardS.l0
   repeat' first
   | (with_reducible exact ih0 _ _ _)
   | (with_reducible exact laws_markText.mono _ _)
   | (with_reducible exact LeO.refl _)
   | (with_reducible exact LeO.none _)
   | (with_reducible refine LeO.ite ?_ ?_)
   | (with_reducible refine LeO.bind ?_ (fun _ => ?_))
   | exact ih0 _ _ _
   | exact laws_markText.mono _ _
   | exact LeO.none _
   | refine LeO.ite ?_ ?_
   | refine LeO.bind ?_ (fun _ => ?_)
theorem laws_heldCardS.mono : ∀ a0 a1 k, LeO (laws_heldCardS.f k a0 a1) (laws_heldCardS.f (k + 1) a0 a1) := by
 intro a0 a1 k
 have ih0 := laws_heldCardS.mono_l k
 unfold laws_heldCardS.f
 repeat' first
   | (with_reducible exact ih0 _ _ _)
   | (with_reducible exact laws_markText.mono _ _)
   | (with_reducible exact LeO.refl _)
   | (with_reducible exact LeO.none _)
   | (with_reducible refine LeO.ite ?_ ?_)
   | (with_reducible refine LeO.bind ?_ (fun _ => ?_))
   | exact ih0 _ _ _
   | exact laws_markText.mono _ _
   | exact LeO.none _
   | refine LeO.ite ?_ ?_
   | refine LeO.bind ?_ (fun _ => ?_)
def laws_heldCardS.T4 : Bool × List (List Nat × List Nat) := (true, [([], []), ([], []), ([0, 1], [0, 1]), ([2], [2]), ([3], [3]), ([], []), ([5], [5]), ([4, 6], [4, 6])])
def laws_heldCardS.B4 : List Nat := [0, 0, 3, 7, 15, 0, 32, 127]
theorem laws_heldCardS.tab4 : rtab .any (opsOf Try.f40 4) = laws_heldCardS.T4 := by kernel_rfl
theorem laws_heldCardS.bits4 : waitsOk laws_heldCardS.T4.2 laws_heldCardS.B4 = true := by kernel_rfl
set_option maxHeartbeats 64000000 in
set_option maxRecDepth 100000 in
theorem laws_heldCardS.calls (k : Nat) (A0 : Option Addr) (c0 : Nat) (l0 : List (S39)) (a1 : Int) (r : Int) (w : World) (hr0 : Kd.C k39 w A0 l0.length l0) (hc0 : l0.length ≤ c0) (h : laws_heldCardS.f k l0 a1 = some r) :
  Calls Try.prog 40 #[.slice A0 l0.length c0, .int .i64 a1] w fun e w' => e = .returned (.int .i64 r) ∧ Below w.heap.size w w' := by
 obtain ⟨HR0, HC0, HB⟩ := zD3 hr0 hc0 (Below.refl w.heap.size w)
 clear hr0 hc0
 have H : (laws_heldCardS.l0 k l0 a1 0) = some r := h
 clear h
 have H' := zb H
 clear H
 go_enter Try.func40, Try.ntmps40
 go_wp2
 go_loopg [1, 5] k (fun kq v1 v5 w' => ∃ (x1_1 : Int) (x5_1 : Int), v1 = .int .i64 x1_1 ∧ v5 = .int .i64 x5_1 ∧ Aside0 (laws_heldCardS.l0 kq l0 x1_1 x5_1 = some r) ∧ Aside0 (kq ≤ k) ∧ Aside0 (Below w.heap.size w w'))
 case atStart => exact ⟨(a1), (0), zG74, zG74, H', ⟨Nat.le_refl _⟩, ⟨zH82⟩⟩
 case round =>
  clear H'
  obtain ⟨x1_1, x5_1, rfl, rfl, HA, HK1, HB⟩ := hrel
  cases gk with
  | zero => exact absurd HA.out (by simp [laws_heldCardS.l0])
  | succ k1 =>
   have H := HA.out
   clear HA
   simp only [laws_heldCardS.l0] at H
   by_cases c3 : x5_1 < (l0.length : Int)
   rotate_left
   ·rw [if_neg c3] at H
    have c3b0 := decide_eq_false c3
    clear c3
    obtain rfl := Option.some.inj H
    go_wp2
    go_ret
    exact zH32

   rw [if_pos c3] at H
   have c3b0 := decide_eq_true c3
   clear c3
   by_cases c4 : 0 ≤ x5_1
   rotate_left
   ·rw [if_neg c4] at H
    exact absurd H (by simp)
   rw [if_pos c4] at H
   have c4b0 := decide_eq_true c4
   clear c4
   replace H := Option.bind_eq_some_iff.mp H
   obtain ⟨t252, A50, H⟩ := H
   replace H : (if ((rd_T39 l0 x5_1).f0).toList = t252.toList then (if ((rd_T39 l0 x5_1).f1) = (wrap64 (x1_1 + 1)) then (if ((rd_T39 l0 x5_1).f2) = (wrap64 ((wrap64 (x1_1 + 1)) + 1)) then (if ((rd_T39 l0 x5_1).f3) = (wrap64 ((wrap64 ((wrap64 (x1_1 + 1)) + 1)) + 1)) then (laws_heldCardS.l0 k1 l0 (wrap64 ((wrap64 ((wrap64 ((wrap64 (x1_1 + 1)) + 1)) + 1)) + 1)) (wrap64 (x5_1 + 1))) else (some (-1))) else (some (-1))) else (some (-1))) else (some (-1))) = some r := H
   have A5 := zb A50
   clear A50
   by_cases c6 : ((rd_T39 l0 x5_1).f0).toList = t252.toList
   rotate_left
   ·rw [if_neg c6] at H
    have c6b0 : (((rd_T39 l0 x5_1).f0).toList == t252.toList) = false := beq_eq_false_iff_ne.mpr c6
    have c6b1 : (((rd_T39 l0 x5_1).f0).toList != t252.toList) = true := bne_iff_ne.mpr c6
    obtain rfl := Option.some.inj H
    try go_wp2
    have n0_ := zb (ze HB.out)
    clear HB
    have HB := n0_
    clear n0_
    have p251 : 0 ≤ (x5_1 : Int) := zO
    have q251 : x5_1 < (l0.length : Int) := zO
    obtain ⟨ad251, e251, hx251_0, hx251_1, hx251_2, hx251_3⟩ := at_T39 HR0.out x5_1 p251 q251
    have hw251_3 := hx251_3
    have hw251_2 := hx251_2
    have hw251_1 := hx251_1
    have hw251_0 := hx251_0
    cases e251
    replace hx251_0 := (HB.out.cell (za w _ hx251_0)).trans hx251_0
    replace hx251_1 := (HB.out.cell (za w _ hx251_1)).trans hx251_1
    replace hx251_2 := (HB.out.cell (za w _ hx251_2)).trans hx251_2
    replace hx251_3 := (HB.out.cell (za w _ hx251_3)).trans hx251_3
    replace p251 := eq_true p251
    replace q251 := eq_true q251
    refine start_ (n := 8) (S := fun w' => w'.cell? (ad251.add ((x5_1).toNat * 4)) = some (.string ((rd_T39 l0 x5_1).f0)) ∧ w'.cell? ⟨(ad251.add ((x5_1).toNat * 4)).block, (ad251.add ((x5_1).toNat * 4)).off + 1, none⟩ = some (.int .i64 ((rd_T39 l0 x5_1).f1)) ∧ w'.cell? ⟨(ad251.add ((x5_1).toNat * 4)).block, (ad251.add ((x5_1).toNat * 4)).off + 2, none⟩ = some (.int .i64 ((rd_T39 l0 x5_1).f2)) ∧ w'.cell? ⟨(ad251.add ((x5_1).toNat * 4)).block, (ad251.add ((x5_1).toNat * 4)).off + 3, none⟩ = some (.int .i64 ((rd_T39 l0 x5_1).f3))) (ds := []) b15A0 zG75 rfl rfl ⟨((HB.out.cell (za w _ hw251_0)).trans hw251_0), ((HB.out.cell (za w _ hw251_1)).trans hw251_1), ((HB.out.cell (za w _ hw251_2)).trans hw251_2), ((HB.out.cell (za w _ hw251_3)).trans hw251_3)⟩ (fun hHeld => ?_); refine with_tabW laws_heldCardS.tab4 laws_heldCardS.bits4 (fun HT_ HW_ => ?_)
    generalize wr.drew = w18 at HB hx251_0 hx251_1 hx251_2 hx251_3 hHeld ⊢
    refine zP 0 12 b15A1 HT_ ?_
    refine zP 1 13 b15A2 HT_ ?_
    refine zP 2 14 b15A3 HT_ ?_
    refine zP 3 15 b15A4 HT_ ?_
    refine zP 5 17 b15A5 HT_ ?_
    refine zQ 4 16 b15A6 HT_ HW_ hHeld ?_
    refine one_ (i := 6) (N := some 18) b15A7 rfl rfl (one_of HT_.out zG75) zG76 (fun K hK => ?_)
    refine goes_ Try.func36 zG75 rfl #[.int .i64 x1_1] (by rfl) rfl rfl zG55 ?_
    with_reducible refine (laws_markText.calls k1 x1_1 t252 _ A5.out).mono ?_
    rintro e w19 ⟨rfl, hb⟩
    refine ⟨_, rfl, ?_⟩
    have n0_ := zb (zr zG61 hb)
    clear HB
    have HB := n0_
    clear n0_
    (try clear hb)
    (try clear hb2)
    (try clear hk)
    (try clear hi)
    refine hK.out _ _ ⟨((HB.out.cell (za w _ hw251_0)).trans hw251_0), ((HB.out.cell (za w _ hw251_1)).trans hw251_1), ((HB.out.cell (za w _ hw251_2)).trans hw251_2), ((HB.out.cell (za w _ hw251_3)).trans hw251_3)⟩ (fun hHeld => ?_)
    clear hK K
    refine norm_ (a' := ?_) ?_ ?_
    rotate_left
    ·show Act.put _ (some 18) _ = _
     simp only [Act.put, List.setIfInBounds_toArray, List.set_cons_zero, List.set_cons_succ, i64_w, i32_w]
     rfl
    refine zP 7 19 b15A8 HT_ ?_
    refine done_ (done_of HT_.out zG75) ?_
    try go_wp2
    go_ret
    exact zH32
   rw [if_pos c6] at H
   have c6b0 : (((rd_T39 l0 x5_1).f0).toList == t252.toList) = true := beq_iff_eq.mpr c6
   have c6b1 : (((rd_T39 l0 x5_1).f0).toList != t252.toList) = false := bne_eq_false_iff_eq.mpr c6
   clear c6
   by_cases c7 : ((rd_T39 l0 x5_1).f1) = (wrap64 (x1_1 + 1))
   rotate_left
   ·rw [if_neg c7] at H
    have c7b0 : (((rd_T39 l0 x5_1).f1) == (wrap64 (x1_1 + 1))) = false := beq_eq_false_iff_ne.mpr c7
    have c7b1 : (((rd_T39 l0 x5_1).f1) != (wrap64 (x1_1 + 1))) = true := bne_iff_ne.mpr c7
    obtain rfl := Option.some.inj H
    try go_wp2
    have n0_ := zb (ze HB.out)
    clear HB
    have HB := n0_
    clear n0_
    have p251 : 0 ≤ (x5_1 : Int) := zO
    have q251 : x5_1 < (l0.length : Int) := zO
    obtain ⟨ad251, e251, hx251_0, hx251_1, hx251_2, hx251_3⟩ := at_T39 HR0.out x5_1 p251 q251
    have hw251_3 := hx251_3
    have hw251_2 := hx251_2
    have hw251_1 := hx251_1
    have hw251_0 := hx251_0
    cases e251
    replace hx251_0 := (HB.out.cell (za w _ hx251_0)).trans hx251_0
    replace hx251_1 := (HB.out.cell (za w _ hx251_1)).trans hx251_1
    replace hx251_2 := (HB.out.cell (za w _ hx251_2)).trans hx251_2
    replace hx251_3 := (HB.out.cell (za w _ hx251_3)).trans hx251_3
    replace p251 := eq_true p251
    replace q251 := eq_true q251
    refine start_ (n := 8) (S := fun w' => w'.cell? (ad251.add ((x5_1).toNat * 4)) = some (.string ((rd_T39 l0 x5_1).f0)) ∧ w'.cell? ⟨(ad251.add ((x5_1).toNat * 4)).block, (ad251.add ((x5_1).toNat * 4)).off + 1, none⟩ = some (.int .i64 ((rd_T39 l0 x5_1).f1)) ∧ w'.cell? ⟨(ad251.add ((x5_1).toNat * 4)).block, (ad251.add ((x5_1).toNat * 4)).off + 2, none⟩ = some (.int .i64 ((rd_T39 l0 x5_1).f2)) ∧ w'.cell? ⟨(ad251.add ((x5_1).toNat * 4)).block, (ad251.add ((x5_1).toNat * 4)).off + 3, none⟩ = some (.int .i64 ((rd_T39 l0 x5_1).f3))) (ds := []) b15A0 zG75 rfl rfl ⟨((HB.out.cell (za w _ hw251_0)).trans hw251_0), ((HB.out.cell (za w _ hw251_1)).trans hw251_1), ((HB.out.cell (za w _ hw251_2)).trans hw251_2), ((HB.out.cell (za w _ hw251_3)).trans hw251_3)⟩ (fun hHeld => ?_); refine with_tabW laws_heldCardS.tab4 laws_heldCardS.bits4 (fun HT_ HW_ => ?_)
    generalize wr.drew = w16 at HB hx251_0 hx251_1 hx251_2 hx251_3 hHeld ⊢
    refine zP 0 12 b15A1 HT_ ?_
    refine zP 1 13 b15A2 HT_ ?_
    refine zP 2 14 b15A3 HT_ ?_
    refine zP 3 15 b15A4 HT_ ?_
    refine zP 5 17 b15A5 HT_ ?_
    refine zQ 4 16 b15A6 HT_ HW_ hHeld ?_
    refine one_ (i := 6) (N := some 18) b15A7 rfl rfl (one_of HT_.out zG75) zG76 (fun K hK => ?_)
    refine goes_ Try.func36 zG75 rfl #[.int .i64 x1_1] (by rfl) rfl rfl zG55 ?_
    with_reducible refine (laws_markText.calls k1 x1_1 t252 _ A5.out).mono ?_
    rintro e w17 ⟨rfl, hb⟩
    refine ⟨_, rfl, ?_⟩
    have n0_ := zb (zr zG61 hb)
    clear HB
    have HB := n0_
    clear n0_
    (try clear hb)
    (try clear hb2)
    (try clear hk)
    (try clear hi)
    refine hK.out _ _ ⟨((HB.out.cell (za w _ hw251_0)).trans hw251_0), ((HB.out.cell (za w _ hw251_1)).trans hw251_1), ((HB.out.cell (za w _ hw251_2)).trans hw251_2), ((HB.out.cell (za w _ hw251_3)).trans hw251_3)⟩ (fun hHeld => ?_)
    clear hK K
    refine norm_ (a' := ?_) ?_ ?_
    rotate_left
    ·show Act.put _ (some 18) _ = _
     simp only [Act.put, List.setIfInBounds_toArray, List.set_cons_zero, List.set_cons_succ, i64_w, i32_w]
     rfl
    refine zP 7 19 b15A8 HT_ ?_
    refine done_ (done_of HT_.out zG75) ?_
    have p253 : 0 ≤ (x5_1 : Int) := zO
    have q253 : x5_1 < (l0.length : Int) := zO
    obtain ⟨ad253, e253, hx253_0, hx253_1, hx253_2, hx253_3⟩ := at_T39 HR0.out x5_1 p253 q253
    obtain rfl : ad251 = ad253 := (by injection e253)
    replace hx253_0 := (HB.out.cell (za w _ hx253_0)).trans hx253_0
    replace hx253_1 := (HB.out.cell (za w _ hx253_1)).trans hx253_1
    replace hx253_2 := (HB.out.cell (za w _ hx253_2)).trans hx253_2
    replace hx253_3 := (HB.out.cell (za w _ hx253_3)).trans hx253_3
    replace p253 := eq_true p253
    replace q253 := eq_true q253
    try go_wp2
    go_ret
    exact zH32
   rw [if_pos c7] at H
   have c7b0 : (((rd_T39 l0 x5_1).f1) == (wrap64 (x1_1 + 1))) = true := beq_iff_eq.mpr c7
   have c7b1 : (((rd_T39 l0 x5_1).f1) != (wrap64 (x1_1 + 1))) = false := bne_eq_false_iff_eq.mpr c7
   clear c7
   by_cases c8 : ((rd_T39 l0 x5_1).f2) = (wrap64 ((wrap64 (x1_1 + 1)) + 1))
   rotate_left
   ·rw [if_neg c8] at H
    have c8b0 : (((rd_T39 l0 x5_1).f2) == (wrap64 ((wrap64 (x1_1 + 1)) + 1))) = false := beq_eq_false_iff_ne.mpr c8
    have c8b1 : (((rd_T39 l0 x5_1).f2) != (wrap64 ((wrap64 (x1_1 + 1)) + 1))) = true := bne_iff_ne.mpr c8
    obtain rfl := Option.some.inj H
    try go_wp2
    have n0_ := zb (ze HB.out)
    clear HB
    have HB := n0_
    clear n0_
    have p251 : 0 ≤ (x5_1 : Int) := zO
    have q251 : x5_1 < (l0.length : Int) := zO
    obtain ⟨ad251, e251, hx251_0, hx251_1, hx251_2, hx251_3⟩ := at_T39 HR0.out x5_1 p251 q251
    have hw251_3 := hx251_3
    have hw251_2 := hx251_2
    have hw251_1 := hx251_1
    have hw251_0 := hx251_0
    cases e251
    replace hx251_0 := (HB.out.cell (za w _ hx251_0)).trans hx251_0
    replace hx251_1 := (HB.out.cell (za w _ hx251_1)).trans hx251_1
    replace hx251_2 := (HB.out.cell (za w _ hx251_2)).trans hx251_2
    replace hx251_3 := (HB.out.cell (za w _ hx251_3)).trans hx251_3
    replace p251 := eq_true p251
    replace q251 := eq_true q251
    refine start_ (n := 8) (S := fun w' => w'.cell? (ad251.add ((x5_1).toNat * 4)) = some (.string ((rd_T39 l0 x5_1).f0)) ∧ w'.cell? ⟨(ad251.add ((x5_1).toNat * 4)).block, (ad251.add ((x5_1).toNat * 4)).off + 1, none⟩ = some (.int .i64 ((rd_T39 l0 x5_1).f1)) ∧ w'.cell? ⟨(ad251.add ((x5_1).toNat * 4)).block, (ad251.add ((x5_1).toNat * 4)).off + 2, none⟩ = some (.int .i64 ((rd_T39 l0 x5_1).f2)) ∧ w'.cell? ⟨(ad251.add ((x5_1).toNat * 4)).block, (ad251.add ((x5_1).toNat * 4)).off + 3, none⟩ = some (.int .i64 ((rd_T39 l0 x5_1).f3))) (ds := []) b15A0 zG75 rfl rfl ⟨((HB.out.cell (za w _ hw251_0)).trans hw251_0), ((HB.out.cell (za w _ hw251_1)).trans hw251_1), ((HB.out.cell (za w _ hw251_2)).trans hw251_2), ((HB.out.cell (za w _ hw251_3)).trans hw251_3)⟩ (fun hHeld => ?_); refine with_tabW laws_heldCardS.tab4 laws_heldCardS.bits4 (fun HT_ HW_ => ?_)
    generalize wr.drew = w14 at HB hx251_0 hx251_1 hx251_2 hx251_3 hHeld ⊢
    refine zP 0 12 b15A1 HT_ ?_
    refine zP 1 13 b15A2 HT_ ?_
    refine zP 2 14 b15A3 HT_ ?_
    refine zP 3 15 b15A4 HT_ ?_
    refine zP 5 17 b15A5 HT_ ?_
    refine zQ 4 16 b15A6 HT_ HW_ hHeld ?_
    refine one_ (i := 6) (N := some 18) b15A7 rfl rfl (one_of HT_.out zG75) zG76 (fun K hK => ?_)
    refine goes_ Try.func36 zG75 rfl #[.int .i64 x1_1] (by rfl) rfl rfl zG55 ?_
    with_reducible refine (laws_markText.calls k1 x1_1 t252 _ A5.out).mono ?_
    rintro e w15 ⟨rfl, hb⟩
    refine ⟨_, rfl, ?_⟩
    have n0_ := zb (zr zG61 hb)
    clear HB
    have HB := n0_
    clear n0_
    (try clear hb)
    (try clear hb2)
    (try clear hk)
    (try clear hi)
    refine hK.out _ _ ⟨((HB.out.cell (za w _ hw251_0)).trans hw251_0), ((HB.out.cell (za w _ hw251_1)).trans hw251_1), ((HB.out.cell (za w _ hw251_2)).trans hw251_2), ((HB.out.cell (za w _ hw251_3)).trans hw251_3)⟩ (fun hHeld => ?_)
    clear hK K
    refine norm_ (a' := ?_) ?_ ?_
    rotate_left
    ·show Act.put _ (some 18) _ = _
     simp only [Act.put, List.setIfInBounds_toArray, List.set_cons_zero, List.set_cons_succ, i64_w, i32_w]
     rfl
    refine zP 7 19 b15A8 HT_ ?_
    refine done_ (done_of HT_.out zG75) ?_
    have p253 : 0 ≤ (x5_1 : Int) := zO
    have q253 : x5_1 < (l0.length : Int) := zO
    obtain ⟨ad253, e253, hx253_0, hx253_1, hx253_2, hx253_3⟩ := at_T39 HR0.out x5_1 p253 q253
    obtain rfl : ad251 = ad253 := (by injection e253)
    replace hx253_0 := (HB.out.cell (za w _ hx253_0)).trans hx253_0
    replace hx253_1 := (HB.out.cell (za w _ hx253_1)).trans hx253_1
    replace hx253_2 := (HB.out.cell (za w _ hx253_2)).trans hx253_2
    replace hx253_3 := (HB.out.cell (za w _ hx253_3)).trans hx253_3
    replace p253 := eq_true p253
    replace q253 := eq_true q253
    have p254 : 0 ≤ (x5_1 : Int) := zO
    have q254 : x5_1 < (l0.length : Int) := zO
    obtain ⟨ad254, e254, hx254_0, hx254_1, hx254_2, hx254_3⟩ := at_T39 HR0.out x5_1 p254 q254
    obtain rfl : ad251 = ad254 := (by injection e254)
    replace hx254_0 := (HB.out.cell (za w _ hx254_0)).trans hx254_0
    replace hx254_1 := (HB.out.cell (za w _ hx254_1)).trans hx254_1
    replace hx254_2 := (HB.out.cell (za w _ hx254_2)).trans hx254_2
    replace hx254_3 := (HB.out.cell (za w _ hx254_3)).trans hx254_3
    replace p254 := eq_true p254
    replace q254 := eq_true q254
    try go_wp2
    go_ret
    exact zH32
   rw [if_pos c8] at H
   have c8b0 : (((rd_T39 l0 x5_1).f2) == (wrap64 ((wrap64 (x1_1 + 1)) + 1))) = true := beq_iff_eq.mpr c8
   have c8b1 : (((rd_T39 l0 x5_1).f2) != (wrap64 ((wrap64 (x1_1 + 1)) + 1))) = false := bne_eq_false_iff_eq.mpr c8
   clear c8
   by_cases c9 : ((rd_T39 l0 x5_1).f3) = (wrap64 ((wrap64 ((wrap64 (x1_1 + 1)) + 1)) + 1))
   rotate_left
   ·rw [if_neg c9] at H
    have c9b0 : (((rd_T39 l0 x5_1).f3) == (wrap64 ((wrap64 ((wrap64 (x1_1 + 1)) + 1)) + 1))) = false := beq_eq_false_iff_ne.mpr c9
    have c9b1 : (((rd_T39 l0 x5_1).f3) != (wrap64 ((wrap64 ((wrap64 (x1_1 + 1)) + 1)) + 1))) = true := bne_iff_ne.mpr c9
    obtain rfl := Option.some.inj H
    try go_wp2
    have n0_ := zb (ze HB.out)
    clear HB
    have HB := n0_
    clear n0_
    have p251 : 0 ≤ (x5_1 : Int) := zO
    have q251 : x5_1 < (l0.length : Int) := zO
    obtain ⟨ad251, e251, hx251_0, hx251_1, hx251_2, hx251_3⟩ := at_T39 HR0.out x5_1 p251 q251
    have hw251_3 := hx251_3
    have hw251_2 := hx251_2
    have hw251_1 := hx251_1
    have hw251_0 := hx251_0
    cases e251
    replace hx251_0 := (HB.out.cell (za w _ hx251_0)).trans hx251_0
    replace hx251_1 := (HB.out.cell (za w _ hx251_1)).trans hx251_1
    replace hx251_2 := (HB.out.cell (za w _ hx251_2)).trans hx251_2
    replace hx251_3 := (HB.out.cell (za w _ hx251_3)).trans hx251_3
    replace p251 := eq_true p251
    replace q251 := eq_true q251
    refine start_ (n := 8) (S := fun w' => w'.cell? (ad251.add ((x5_1).toNat * 4)) = some (.string ((rd_T39 l0 x5_1).f0)) ∧ w'.cell? ⟨(ad251.add ((x5_1).toNat * 4)).block, (ad251.add ((x5_1).toNat * 4)).off + 1, none⟩ = some (.int .i64 ((rd_T39 l0 x5_1).f1)) ∧ w'.cell? ⟨(ad251.add ((x5_1).toNat * 4)).block, (ad251.add ((x5_1).toNat * 4)).off + 2, none⟩ = some (.int .i64 ((rd_T39 l0 x5_1).f2)) ∧ w'.cell? ⟨(ad251.add ((x5_1).toNat * 4)).block, (ad251.add ((x5_1).toNat * 4)).off + 3, none⟩ = some (.int .i64 ((rd_T39 l0 x5_1).f3))) (ds := []) b15A0 zG75 rfl rfl ⟨((HB.out.cell (za w _ hw251_0)).trans hw251_0), ((HB.out.cell (za w _ hw251_1)).trans hw251_1), ((HB.out.cell (za w _ hw251_2)).trans hw251_2), ((HB.out.cell (za w _ hw251_3)).trans hw251_3)⟩ (fun hHeld => ?_); refine with_tabW laws_heldCardS.tab4 laws_heldCardS.bits4 (fun HT_ HW_ => ?_)
    generalize wr.drew = w12 at HB hx251_0 hx251_1 hx251_2 hx251_3 hHeld ⊢
    refine zP 0 12 b15A1 HT_ ?_
    refine zP 1 13 b15A2 HT_ ?_
    refine zP 2 14 b15A3 HT_ ?_
    refine zP 3 15 b15A4 HT_ ?_
    refine zP 5 17 b15A5 HT_ ?_
    refine zQ 4 16 b15A6 HT_ HW_ hHeld ?_
    refine one_ (i := 6) (N := some 18) b15A7 rfl rfl (one_of HT_.out zG75) zG76 (fun K hK => ?_)
    refine goes_ Try.func36 zG75 rfl #[.int .i64 x1_1] (by rfl) rfl rfl zG55 ?_
    with_reducible refine (laws_markText.calls k1 x1_1 t252 _ A5.out).mono ?_
    rintro e w13 ⟨rfl, hb⟩
    refine ⟨_, rfl, ?_⟩
    have n0_ := zb (zr zG61 hb)
    clear HB
    have HB := n0_
    clear n0_
    (try clear hb)
    (try clear hb2)
    (try clear hk)
    (try clear hi)
    refine hK.out _ _ ⟨((HB.out.cell (za w _ hw251_0)).trans hw251_0), ((HB.out.cell (za w _ hw251_1)).trans hw251_1), ((HB.out.cell (za w _ hw251_2)).trans hw251_2), ((HB.out.cell (za w _ hw251_3)).trans hw251_3)⟩ (fun hHeld => ?_)
    clear hK K
    refine norm_ (a' := ?_) ?_ ?_
    rotate_left
    ·show Act.put _ (some 18) _ = _
     simp only [Act.put, List.setIfInBounds_toArray, List.set_cons_zero, List.set_cons_succ, i64_w, i32_w]
     rfl
    refine zP 7 19 b15A8 HT_ ?_
    refine done_ (done_of HT_.out zG75) ?_
    have p253 : 0 ≤ (x5_1 : Int) := zO
    have q253 : x5_1 < (l0.length : Int) := zO
    obtain ⟨ad253, e253, hx253_0, hx253_1, hx253_2, hx253_3⟩ := at_T39 HR0.out x5_1 p253 q253
    obtain rfl : ad251 = ad253 := (by injection e253)
    replace hx253_0 := (HB.out.cell (za w _ hx253_0)).trans hx253_0
    replace hx253_1 := (HB.out.cell (za w _ hx253_1)).trans hx253_1
    replace hx253_2 := (HB.out.cell (za w _ hx253_2)).trans hx253_2
    replace hx253_3 := (HB.out.cell (za w _ hx253_3)).trans hx253_3
    replace p253 := eq_true p253
    replace q253 := eq_true q253
    have p254 : 0 ≤ (x5_1 : Int) := zO
    have q254 : x5_1 < (l0.length : Int) := zO
    obtain ⟨ad254, e254, hx254_0, hx254_1, hx254_2, hx254_3⟩ := at_T39 HR0.out x5_1 p254 q254
    obtain rfl : ad251 = ad254 := (by injection e254)
    replace hx254_0 := (HB.out.cell (za w _ hx254_0)).trans hx254_0
    replace hx254_1 := (HB.out.cell (za w _ hx254_1)).trans hx254_1
    replace hx254_2 := (HB.out.cell (za w _ hx254_2)).trans hx254_2
    replace hx254_3 := (HB.out.cell (za w _ hx254_3)).trans hx254_3
    replace p254 := eq_true p254
    replace q254 := eq_true q254
    have p255 : 0 ≤ (x5_1 : Int) := zO
    have q255 : x5_1 < (l0.length : Int) := zO
    obtain ⟨ad255, e255, hx255_0, hx255_1, hx255_2, hx255_3⟩ := at_T39 HR0.out x5_1 p255 q255
    obtain rfl : ad251 = ad255 := (by injection e255)
    replace hx255_0 := (HB.out.cell (za w _ hx255_0)).trans hx255_0
    replace hx255_1 := (HB.out.cell (za w _ hx255_1)).trans hx255_1
    replace hx255_2 := (HB.out.cell (za w _ hx255_2)).trans hx255_2
    replace hx255_3 := (HB.out.cell (za w _ hx255_3)).trans hx255_3
    replace p255 := eq_true p255
    replace q255 := eq_true q255
    try go_wp2
    go_ret
    exact zH32
   rw [if_pos c9] at H
   have c9b0 : (((rd_T39 l0 x5_1).f3) == (wrap64 ((wrap64 ((wrap64 (x1_1 + 1)) + 1)) + 1))) = true := beq_iff_eq.mpr c9
   have c9b1 : (((rd_T39 l0 x5_1).f3) != (wrap64 ((wrap64 ((wrap64 (x1_1 + 1)) + 1)) + 1))) = false := bne_eq_false_iff_eq.mpr c9
   clear c9
   have H' := zb H
   clear H
   try go_wp2
   have n0_ := zb (ze HB.out)
   clear HB
   have HB := n0_
   clear n0_
   have p251 : 0 ≤ (x5_1 : Int) := zO
   have q251 : x5_1 < (l0.length : Int) := zO
   obtain ⟨ad251, e251, hx251_0, hx251_1, hx251_2, hx251_3⟩ := at_T39 HR0.out x5_1 p251 q251
   have hw251_3 := hx251_3
   have hw251_2 := hx251_2
   have hw251_1 := hx251_1
   have hw251_0 := hx251_0
   cases e251
   replace hx251_0 := (HB.out.cell (za w _ hx251_0)).trans hx251_0
   replace hx251_1 := (HB.out.cell (za w _ hx251_1)).trans hx251_1
   replace hx251_2 := (HB.out.cell (za w _ hx251_2)).trans hx251_2
   replace hx251_3 := (HB.out.cell (za w _ hx251_3)).trans hx251_3
   replace p251 := eq_true p251
   replace q251 := eq_true q251
   refine start_ (n := 8) (S := fun w' => w'.cell? (ad251.add ((x5_1).toNat * 4)) = some (.string ((rd_T39 l0 x5_1).f0)) ∧ w'.cell? ⟨(ad251.add ((x5_1).toNat * 4)).block, (ad251.add ((x5_1).toNat * 4)).off + 1, none⟩ = some (.int .i64 ((rd_T39 l0 x5_1).f1)) ∧ w'.cell? ⟨(ad251.add ((x5_1).toNat * 4)).block, (ad251.add ((x5_1).toNat * 4)).off + 2, none⟩ = some (.int .i64 ((rd_T39 l0 x5_1).f2)) ∧ w'.cell? ⟨(ad251.add ((x5_1).toNat * 4)).block, (ad251.add ((x5_1).toNat * 4)).off + 3, none⟩ = some (.int .i64 ((rd_T39 l0 x5_1).f3))) (ds := []) b15A0 zG75 rfl rfl ⟨((HB.out.cell (za w _ hw251_0)).trans hw251_0), ((HB.out.cell (za w _ hw251_1)).trans hw251_1), ((HB.out.cell (za w _ hw251_2)).trans hw251_2), ((HB.out.cell (za w _ hw251_3)).trans hw251_3)⟩ (fun hHeld => ?_); refine with_tabW laws_heldCardS.tab4 laws_heldCardS.bits4 (fun HT_ HW_ => ?_)
   generalize wr.drew = w10 at HB hx251_0 hx251_1 hx251_2 hx251_3 hHeld ⊢
   refine zP 0 12 b15A1 HT_ ?_
   refine zP 1 13 b15A2 HT_ ?_
   refine zP 2 14 b15A3 HT_ ?_
   refine zP 3 15 b15A4 HT_ ?_
   refine zP 5 17 b15A5 HT_ ?_
   refine zQ 4 16 b15A6 HT_ HW_ hHeld ?_
   refine one_ (i := 6) (N := some 18) b15A7 rfl rfl (one_of HT_.out zG75) zG76 (fun K hK => ?_)
   refine goes_ Try.func36 zG75 rfl #[.int .i64 x1_1] (by rfl) rfl rfl zG55 ?_
   with_reducible refine (laws_markText.calls k1 x1_1 t252 _ A5.out).mono ?_
   rintro e w11 ⟨rfl, hb⟩
   refine ⟨_, rfl, ?_⟩
   have n0_ := zb (zr zG61 hb)
   clear HB
   have HB := n0_
   clear n0_
   (try clear hb)
   (try clear hb2)
   (try clear hk)
   (try clear hi)
   refine hK.out _ _ ⟨((HB.out.cell (za w _ hw251_0)).trans hw251_0), ((HB.out.cell (za w _ hw251_1)).trans hw251_1), ((HB.out.cell (za w _ hw251_2)).trans hw251_2), ((HB.out.cell (za w _ hw251_3)).trans hw251_3)⟩ (fun hHeld => ?_)
   clear hK K
   refine norm_ (a' := ?_) ?_ ?_
   rotate_left
   ·show Act.put _ (some 18) _ = _
    simp only [Act.put, List.setIfInBounds_toArray, List.set_cons_zero, List.set_cons_succ, i64_w, i32_w]
    rfl
   refine zP 7 19 b15A8 HT_ ?_
   refine done_ (done_of HT_.out zG75) ?_
   have p253 : 0 ≤ (x5_1 : Int) := zO
   have q253 : x5_1 < (l0.length : Int) := zO
   obtain ⟨ad253, e253, hx253_0, hx253_1, hx253_2, hx253_3⟩ := at_T39 HR0.out x5_1 p253 q253
   obtain rfl : ad251 = ad253 := (by injection e253)
   replace hx253_0 := (HB.out.cell (za w _ hx253_0)).trans hx253_0
   replace hx253_1 := (HB.out.cell (za w _ hx253_1)).trans hx253_1
   replace hx253_2 := (HB.out.cell (za w _ hx253_2)).trans hx253_2
   replace hx253_3 := (HB.out.cell (za w _ hx253_3)).trans hx253_3
   replace p253 := eq_true p253
   replace q253 := eq_true q253
   have p254 : 0 ≤ (x5_1 : Int) := zO
   have q254 : x5_1 < (l0.length : Int) := zO
   obtain ⟨ad254, e254, hx254_0, hx254_1, hx254_2, hx254_3⟩ := at_T39 HR0.out x5_1 p254 q254
   obtain rfl : ad251 = ad254 := (by injection e254)
   replace hx254_0 := (HB.out.cell (za w _ hx254_0)).trans hx254_0
   replace hx254_1 := (HB.out.cell (za w _ hx254_1)).trans hx254_1
   replace hx254_2 := (HB.out.cell (za w _ hx254_2)).trans hx254_2
   replace hx254_3 := (HB.out.cell (za w _ hx254_3)).trans hx254_3
   replace p254 := eq_true p254
   replace q254 := eq_true q254
   have p255 : 0 ≤ (x5_1 : Int) := zO
   have q255 : x5_1 < (l0.length : Int) := zO
   obtain ⟨ad255, e255, hx255_0, hx255_1, hx255_2, hx255_3⟩ := at_T39 HR0.out x5_1 p255 q255
   obtain rfl : ad251 = ad255 := (by injection e255)
   replace hx255_0 := (HB.out.cell (za w _ hx255_0)).trans hx255_0
   replace hx255_1 := (HB.out.cell (za w _ hx255_1)).trans hx255_1
   replace hx255_2 := (HB.out.cell (za w _ hx255_2)).trans hx255_2
   replace hx255_3 := (HB.out.cell (za w _ hx255_3)).trans hx255_3
   replace p255 := eq_true p255
   replace q255 := eq_true q255
   try go_wp2
   go_roundg k1
   case measure => have := HK1.out; omega
   case rel => exact ⟨(wrap64 ((wrap64 ((wrap64 ((wrap64 (x1_1 + 1)) + 1)) + 1)) + 1)), (wrap64 (x5_1 + 1)), zG74, zG74, H', ⟨zH106⟩, ⟨zH82⟩⟩
end Go.Proofs.Ytoibmbkmpadmnaa.G
