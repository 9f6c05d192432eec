-- squeezed
-- made by pp.py (wip/tools) out of the translation; Lean checks it
import Derived.Test.YtojncbpeeboooaaU0
import Derived.Test.YtojncbpeeboooaaU2
namespace Go.Proofs.Ytojncbpeeboooaa.U
open Go.RowKit Go.Proofs.YtojncbpeeboooaaW.PrintWords Go.Proofs.YtojncbpeeboooaaW.PrintLast Go.Proofs.YtojncbpeeboooaaW.PrintMore
attribute [local go_sem] max2_int min2_int max_two min_two max_three min_three max_four min_four   -- for this text's walks alone
set_option linter.unusedVariables false
set_option linter.unusedSimpArgs false

abbrev b6A0 := zM 15 2047
abbrev b6A1 := zM 15 0
abbrev b6A2 := zM 15 1
abbrev b6A3 := zM 15 3
abbrev b6A4 := zM 15 7
abbrev b6A5 := zM 15 1023
abbrev b6A6 := zM 15 4095
abbrev b6A7 := zM 15 8191
abbrev b6A8 := zM 15 16383
abbrev b6A9 := zM 15 32767
abbrev b6A10 := zM 15 15
abbrev b6A11 := zM 15 255
abbrev b6A12 := zM 15 511
abbrev b6A13 := zM 14 0
abbrev b6A14 := zM 14 1
abbrev b6A15 := zM 14 3
abbrev b6A16 := zM 14 7
abbrev b6A17 := zM 14 15
abbrev b6A18 := zM 14 31
abbrev b6A19 := zM 14 95
abbrev b6A20 := zM 14 223
abbrev b6A21 := zM 14 479
abbrev b6A22 := zM 14 991
abbrev b6A23 := zM 14 1023
abbrev b6A24 := zM 14 2047
abbrev b6A25 := zM 14 4095
abbrev b6A26 := zM 14 8191
abbrev b6A27 := zM 14 16383
/-! ### impl_shiftCode: function 98 -/
def impl_shiftCode.l0 : Nat → List (S139) → Int → Int → Bool → List Int → Int → Int → Int → Int → ByteArray → ByteArray → Int → Int → Int → List ByteArray → Option (Int)
 | 0, _, _, _, _, _, _, _, _, _, _, _, _, _, _, _ => none
 | k + 1, x0, x3, x11, x12, x24, x25, x26, x155000, x155001, x155002, x156000, x156001, x156002, x156003, x156004 => if x26 < x25 then (if 0 ≤ x26 then (if x26 < (x24.length : Int) then (if (rd x24 x26) = x3 then (if x26 < (x0.length : Int) then (if x12 = true then (impl_shiftCode.l0 k x0 x3 (wrap64 (x11 + (wrap64 (((rd_T139 x0 x26).f1) - ((rd_T139 x0 x26).f0))))) true x24 x25 (wrap64 (x26 + 1)) x155000 x155001 x155002 x156000 x156001 x156002 x156003 x156004) else (impl_shiftCode.l0 k x0 x3 (wrap64 (x11 + (wrap64 (((rd_T139 x0 x26).f1) - ((rd_T139 x0 x26).f0))))) (decide (x155000 < (wrap64 (((rd_T139 x0 x26).f1) + x156002)))) x24 x25 (wrap64 (x26 + 1)) x155000 x155001 x155002 x156000 x156001 x156002 x156003 x156004)) else (none)) else (impl_shiftCode.l0 k x0 x3 x11 x12 x24 x25 (wrap64 (x26 + 1)) x155000 x155001 x155002 x156000 x156001 x156002 x156003 x156004)) else (none)) else (none)) else ((slices_Contains_string_string.f k x156004 x155002).bind fun t160 => (if t160 = true then (if x12 = true then (some 12) else (if (wrap64 ((wrap64 (x11 + x155001)) - x155000)) > x156001 then (some 11) else (some 0))) else (some 13)))
def impl_shiftCode.f (k : Nat) (l0 : List (S139)) (l1 : List (S72)) (l2 : List Int) (a3 : Int) : Option (Int) := if 0 ≤ (l2.length : Int) then (if (l2.length : Int) < (l0.length : Int) then (if 0 ≤ a3 then (if a3 < (l1.length : Int) then (impl_shiftCode.l0 k l0 a3 0 false l2 (l2.length : Int) 0 ((rd_T139 l0 (l2.length : Int)).f0) ((rd_T139 l0 (l2.length : Int)).f1) ((rd_T139 l0 (l2.length : Int)).f2) ((rd_T72 l1 a3).f0) ((rd_T72 l1 a3).f1) ((rd_T72 l1 a3).f2) ((rd_T72 l1 a3).f3) ((rd_T72 l1 a3).f4)) else (none)) else (none)) else (none)) else (none)
theorem impl_shiftCode.mono_l : ∀ k, (∀ y0 y1 y2 y3 y4 y5 y6 y7 y8 y9 y10 y11 y12 y13 y14, LeO (impl_shiftCode.l0 k y0 y1 y2 y3 y4 y5 y6 y7 y8 y9 y10 y11 y12 y13 y14) (impl_shiftCode.l0 (k + 1) y0 y1 y2 y3 y4 y5 y6 y7 y8 y9 y10 y11 y12 y13 y14))
 | 0 => fun _ _ _ _ _ _ _ _ _ _ _ _ _ _ _ r h => by simp [impl_shiftCode.l0] at h
 | k + 1 => by
  have ih0 := impl_shiftCode.mono_l k
  ·intro y0 y1 y2 y3 y4 y5 y6 y7 y8 y9 y10 y11 y12 y13 y14
   unfold impl_shiftCode.l0
   repeat' first
   | (with_reducible exact ih0 _ _ _ _ _ _ _ _ _ _ _ _ _ _ _)
   | (with_reducible exact slices_Contains_string_string.mono _ _ _)
   | (with_reducible exact LeO.refl _)
   | (with_reducible exact LeO.none _)
   | (with_reducible refine LeO.ite ?_ ?_)
   | (with_reducible refine LeO.bind ?_ (fun _ => ?_))
   | exact ih0 _ _ _ _ _ _ _ _ _ _ _ _ _ _ _
   | exact slices_Contains_string_string.mono _ _ _
   | exact LeO.none _
   | refine LeO.ite ?_ ?_
   | refine LeO.bind ?_ (fun _ => ?_)
theorem impl_shiftCode.mono : ∀ a0 a1 a2 a3 k, LeO (impl_shiftCode.f k a0 a1 a2 a3) (impl_shiftCode.f (k + 1) a0 a1 a2 a3) := by
 intro a0 a1 a2 a3 k
 have ih0 := impl_shiftCode.mono_l k
 unfold impl_shiftCode.f
 repeat' first
   | (with_reducible exact ih0 _ _ _ _ _ _ _ _ _ _ _ _ _ _ _)
   | (with_reducible exact slices_Contains_string_string.mono _ _ _)
   | (with_reducible exact LeO.refl _)
   | (with_reducible exact LeO.none _)
   | (with_reducible refine LeO.ite ?_ ?_)
   | (with_reducible refine LeO.bind ?_ (fun _ => ?_))
   | exact ih0 _ _ _ _ _ _ _ _ _ _ _ _ _ _ _
   | exact slices_Contains_string_string.mono _ _ _
   | exact LeO.none _
   | refine LeO.ite ?_ ?_
   | refine LeO.bind ?_ (fun _ => ?_)
def impl_shiftCode.T1 : Bool × List (List Nat × List Nat) := (true, [([], []), ([], []), ([1], [1]), ([0, 2], [0, 2]), ([3], [3]), ([], []), ([], []), ([5, 6], [5, 6]), ([7], [7]), ([], []), ([], []), ([9, 4, 0, 1, 2, 3, 4, 9, 10], [4, 9]), ([10, 8, 11, 0, 1, 2, 3, 4, 5, 6, 7, 8, 9, 10, 11], [8, 10]), ([12, 0, 1, 2, 3, 4, 5, 6, 7, 8, 9, 10, 11, 12], []), ([13, 0, 1, 2, 3, 4, 5, 6, 7, 8, 9, 10, 11, 12, 13], [])])
def impl_shiftCode.B1 : List Nat := [0, 0, 2, 7, 15, 0, 0, 96, 224, 0, 0, 1567, 4095, 8191, 16383]
theorem impl_shiftCode.tab1 : rtab .any (opsOf Try.f98 1) = impl_shiftCode.T1 := by kernel_rfl
theorem impl_shiftCode.bits1 : waitsOk impl_shiftCode.T1.2 impl_shiftCode.B1 = true := by kernel_rfl
def impl_shiftCode.T6 : Bool × List (List Nat × List Nat) := (true, [([], []), ([], []), ([], []), ([1, 2], [1, 2]), ([3], [3]), ([4], [4]), ([], []), ([], []), ([6, 7], [6, 7]), ([8], [8]), ([9], [9]), ([5, 10], [5, 10]), ([0, 11], [0, 11]), ([12, 0, 1, 2, 3, 4, 5, 6, 7, 8, 9, 10, 11, 12], [0, 12])])
def impl_shiftCode.B6 : List Nat := [0, 0, 0, 6, 14, 30, 0, 0, 192, 448, 960, 2046, 4095, 8191]
theorem impl_shiftCode.tab6 : rtab .any (opsOf Try.f98 6) = impl_shiftCode.T6 := by kernel_rfl
theorem impl_shiftCode.bits6 : waitsOk impl_shiftCode.T6.2 impl_shiftCode.B6 = true := by kernel_rfl
def impl_shiftCode.T7 : Bool × List (List Nat × List Nat) := (true, [([], []), ([0], [0]), ([1], [1]), ([2, 1], [1, 2]), ([1], [1]), ([1], [1]), ([4, 5, 1], [1, 4, 5]), ([6, 1], [1, 6]), ([7, 1], [1, 7]), ([1], [1]), ([9, 1], [1, 9]), ([8, 10, 1], [1, 8, 10]), ([3, 11, 1], [1, 3, 11]), ([1, 12], [1, 12]), ([13, 1, 0, 1, 2, 3, 4, 5, 6, 7, 8, 9, 10, 11, 12, 13], [0, 13])])
def impl_shiftCode.B7 : List Nat := [0, 1, 3, 7, 3, 3, 51, 115, 243, 3, 515, 2035, 4095, 8191, 16383]
theorem impl_shiftCode.tab7 : rtab .any (opsOf Try.f98 7) = impl_shiftCode.T7 := by kernel_rfl
theorem impl_shiftCode.bits7 : waitsOk impl_shiftCode.T7.2 impl_shiftCode.B7 = true := by kernel_rfl
set_option maxHeartbeats 64000000 in
set_option maxRecDepth 100000 in
theorem impl_shiftCode.calls (k : Nat) (A0 : Option Addr) (c0 : Nat) (l0 : List (S139)) (A1 : Option Addr) (c1 : Nat) (l1 : List (S72)) (A2 : Option Addr) (c2 : Nat) (l2 : List Int) (a3 : Int) (r : Int) (w : World) (hr0 : Kd.C k139 w A0 l0.length l0) (hc0 : l0.length ≤ c0) (hr1 : Kd.C k72 w A1 l1.length l1) (hc1 : l1.length ≤ c1) (hr2 : Kd.C (Kd.int .i64) w A2 l2.length l2) (hc2 : l2.length ≤ c2) (h : impl_shiftCode.f k l0 l1 l2 a3 = some r) :
  Calls Try.prog 98 #[.slice A0 l0.length c0, .slice A1 l1.length c1, .slice A2 l2.length c2, .int .i64 a3] w fun e w' => e = .returned (.int .i64 r) ∧ Below w.heap.size w w' := by
 have hu139 := Try.underlying139
 have hu72 := Try.underlying72
 obtain ⟨HR0, HC0, HR1, HC1, HR2, HC2, HB⟩ := zD7 hr0 hc0 hr1 hc1 hr2 hc2 (Below.refl w.heap.size w)
 clear hr0 hc0 hr1 hc1 hr2 hc2
 have H : (if 0 ≤ (l2.length : Int) then (if (l2.length : Int) < (l0.length : Int) then (if 0 ≤ a3 then (if a3 < (l1.length : Int) then (impl_shiftCode.l0 k l0 a3 0 false l2 (l2.length : Int) 0 ((rd_T139 l0 (l2.length : Int)).f0) ((rd_T139 l0 (l2.length : Int)).f1) ((rd_T139 l0 (l2.length : Int)).f2) ((rd_T72 l1 a3).f0) ((rd_T72 l1 a3).f1) ((rd_T72 l1 a3).f2) ((rd_T72 l1 a3).f3) ((rd_T72 l1 a3).f4)) else (none)) else (none)) else (none)) else (none)) = some r := h
 clear h
 by_cases c5 : 0 ≤ (l2.length : Int)
 rotate_left
 ·rw [if_neg c5] at H
  exact absurd H (by simp)

 rw [if_pos c5] at H
 have c5b0 := decide_eq_true c5
 have c5b1 : decide (0 ≤ l2.length) = true := decide_eq_true (by omega)
 clear c5
 by_cases c6 : (l2.length : Int) < (l0.length : Int)
 rotate_left
 ·rw [if_neg c6] at H
  exact absurd H (by simp)
 rw [if_pos c6] at H
 have c6b0 := decide_eq_true c6
 have c6b1 : decide (l2.length < l0.length) = true := decide_eq_true (Int.ofNat_lt.mp c6)
 clear c6
 by_cases c7 : 0 ≤ a3
 rotate_left
 ·rw [if_neg c7] at H
  exact absurd H (by simp)
 rw [if_pos c7] at H
 have c7b0 := decide_eq_true c7
 clear c7
 by_cases c8 : a3 < (l1.length : Int)
 rotate_left
 ·rw [if_neg c8] at H
  exact absurd H (by simp)
 rw [if_pos c8] at H
 have c8b0 := decide_eq_true c8
 clear c8
 have H' := zb H
 clear H
 go_enter Try.func98, Try.ntmps98
 try go_wp2
 have n0_ := zb (zd HB.out)
 clear HB
 have HB := n0_
 clear n0_
 have p152 : 0 ≤ ((l2.length : Int) : Int) := zO
 have q152 : (l2.length : Int) < (l0.length : Int) := zO
 obtain ⟨ad152, e152, hx152_0, hx152_1, hx152_2⟩ := at_T139 HR0.out (l2.length : Int) p152 q152
 have hw152_2 := hx152_2
 (try simp only [Go.IntWalk.toNatUp] at hw152_2)
 have hw152_1 := hx152_1
 (try simp only [Go.IntWalk.toNatUp] at hw152_1)
 have hw152_0 := hx152_0
 (try simp only [Go.IntWalk.toNatUp] at hw152_0)
 cases e152
 replace hx152_0 := (HB.out.cell (za w _ hx152_0)).trans hx152_0
 replace hx152_1 := (HB.out.cell (za w _ hx152_1)).trans hx152_1
 replace hx152_2 := (HB.out.cell (za w _ hx152_2)).trans hx152_2
 (try simp only [Go.IntWalk.toNatUp] at hx152_0)
 (try simp only [Go.IntWalk.toNatUp] at hx152_1)
 (try simp only [Go.IntWalk.toNatUp] at hx152_2)
 replace p152 := eq_true p152
 replace q152 := eq_true q152
 have p153 : 0 ≤ (a3 : Int) := zO
 have q153 : a3 < (l1.length : Int) := zO
 obtain ⟨ad153, A153_4, c153_4, e153, hx153_0, hx153_1, hx153_2, hx153_3, hx153_4, hl153_4, hi153_4⟩ := at_T72 HR1.out a3 p153 q153
 have hw153_4 := hx153_4
 have hw153_3 := hx153_3
 have hw153_2 := hx153_2
 have hw153_1 := hx153_1
 have hw153_0 := hx153_0
 cases e153
 replace hx153_0 := (HB.out.cell (za w _ hx153_0)).trans hx153_0
 replace hx153_1 := (HB.out.cell (za w _ hx153_1)).trans hx153_1
 replace hx153_2 := (HB.out.cell (za w _ hx153_2)).trans hx153_2
 replace hx153_3 := (HB.out.cell (za w _ hx153_3)).trans hx153_3
 replace hx153_4 := (HB.out.cell (za w _ hx153_4)).trans hx153_4
 obtain ⟨HR153_4, HC153_4⟩ := zD2 hi153_4 hl153_4
 clear hi153_4 hl153_4
 replace p153 := eq_true p153
 replace q153 := eq_true q153
 refine start_ (n := 15) (S := fun w' => w'.cell? (ad152.add (l2.length * 3)) = some (.int .i64 ((rd_T139 l0 (l2.length : Int)).f0)) ∧ w'.cell? ⟨(ad152.add (l2.length * 3)).block, (ad152.add (l2.length * 3)).off + 1, none⟩ = some (.int .i64 ((rd_T139 l0 (l2.length : Int)).f1)) ∧ w'.cell? ⟨(ad152.add (l2.length * 3)).block, (ad152.add (l2.length * 3)).off + 2, none⟩ = some (.string ((rd_T139 l0 (l2.length : Int)).f2)) ∧ w'.cell? (ad153.add ((a3).toNat * 5)) = some (.string ((rd_T72 l1 a3).f0)) ∧ w'.cell? ⟨(ad153.add ((a3).toNat * 5)).block, (ad153.add ((a3).toNat * 5)).off + 1, none⟩ = some (.int .i64 ((rd_T72 l1 a3).f1)) ∧ w'.cell? ⟨(ad153.add ((a3).toNat * 5)).block, (ad153.add ((a3).toNat * 5)).off + 2, none⟩ = some (.int .i64 ((rd_T72 l1 a3).f2)) ∧ w'.cell? ⟨(ad153.add ((a3).toNat * 5)).block, (ad153.add ((a3).toNat * 5)).off + 3, none⟩ = some (.int .i64 ((rd_T72 l1 a3).f3)) ∧ w'.cell? ⟨(ad153.add ((a3).toNat * 5)).block, (ad153.add ((a3).toNat * 5)).off + 4, none⟩ = some (.slice A153_4 ((rd_T72 l1 a3).f4).length c153_4)) (ds := []) b6A1 zG101 rfl rfl ⟨((HB.out.cell (za w _ hw152_0)).trans hw152_0), ((HB.out.cell (za w _ hw152_1)).trans hw152_1), ((HB.out.cell (za w _ hw152_2)).trans hw152_2), ((HB.out.cell (za w _ hw153_0)).trans hw153_0), ((HB.out.cell (za w _ hw153_1)).trans hw153_1), ((HB.out.cell (za w _ hw153_2)).trans hw153_2), ((HB.out.cell (za w _ hw153_3)).trans hw153_3), ((HB.out.cell (za w _ hw153_4)).trans hw153_4)⟩ (fun hHeld => ?_); refine with_tabW impl_shiftCode.tab1 impl_shiftCode.bits1 (fun HT_ HW_ => ?_)
 generalize w.drew = w9 at HB HR153_4 hx152_0 hx152_1 hx152_2 hx153_0 hx153_1 hx153_2 hx153_3 hx153_4 hHeld ⊢
 refine zP 0 15 b6A2 HT_ ?_
 refine zP 1 16 b6A3 HT_ ?_
 refine zP 2 17 b6A4 HT_ ?_
 refine zP 3 18 b6A10 HT_ ?_
 refine zP 5 20 #[true, true, true, true, false, true, false, false, false, false, false, false, false, false, false] HT_ ?_
 refine zP 6 21 #[true, true, true, true, false, true, true, false, false, false, false, false, false, false, false] HT_ ?_
 refine zP 7 22 #[true, true, true, true, false, true, true, true, false, false, false, false, false, false, false] HT_ ?_
 refine zQ 4 19 b6A11 HT_ HW_ hHeld ?_
 refine zQ 8 23 b6A12 HT_ HW_ hHeld ?_
 refine join_ (σ := Nat × Nat) 4 b6A0 (fun s_ => [(9, .pointer (some ⟨s_.1, 0, none⟩)), (10, .pointer (some ⟨s_.2, 0, none⟩))]) (fun s_ w' => (w'.cell? (ad152.add (l2.length * 3)) = some (.int .i64 ((rd_T139 l0 (l2.length : Int)).f0)) ∧ w'.cell? ⟨(ad152.add (l2.length * 3)).block, (ad152.add (l2.length * 3)).off + 1, none⟩ = some (.int .i64 ((rd_T139 l0 (l2.length : Int)).f1)) ∧ w'.cell? ⟨(ad152.add (l2.length * 3)).block, (ad152.add (l2.length * 3)).off + 2, none⟩ = some (.string ((rd_T139 l0 (l2.length : Int)).f2)) ∧ w'.cell? (ad153.add ((a3).toNat * 5)) = some (.string ((rd_T72 l1 a3).f0)) ∧ w'.cell? ⟨(ad153.add ((a3).toNat * 5)).block, (ad153.add ((a3).toNat * 5)).off + 1, none⟩ = some (.int .i64 ((rd_T72 l1 a3).f1)) ∧ w'.cell? ⟨(ad153.add ((a3).toNat * 5)).block, (ad153.add ((a3).toNat * 5)).off + 2, none⟩ = some (.int .i64 ((rd_T72 l1 a3).f2)) ∧ w'.cell? ⟨(ad153.add ((a3).toNat * 5)).block, (ad153.add ((a3).toNat * 5)).off + 3, none⟩ = some (.int .i64 ((rd_T72 l1 a3).f3)) ∧ w'.cell? ⟨(ad153.add ((a3).toNat * 5)).block, (ad153.add ((a3).toNat * 5)).off + 4, none⟩ = some (.slice A153_4 ((rd_T72 l1 a3).f4).length c153_4)) ∧ (w'.heap[s_.1]? = some (.cells #[.int .i64 0, .int .i64 0, .string (⟨#[]⟩ : ByteArray)] 139 (0, 0))) ∧ (w'.heap[s_.2]? = some (.cells #[.string (⟨#[]⟩ : ByteArray), .int .i64 0, .int .i64 0, .int .i64 0, .slice none 0 0] 72 (0, 0))) ∧ (w.heap.size ≤ s_.1) ∧ (w.heap.size ≤ s_.1) ∧ (s_.2 ≠ s_.1) ∧ (s_.1 ≠ s_.2) ∧ (w.heap.size ≤ s_.2) ∧ (w.heap.size ≤ s_.2) ∧ (Below w.heap.size w w')) ?_ ?_
 rotate_left
 ·intro hCont
  refine two_ (i := 9) (j := 10) (Ni := some 9) (Nj := some 10) b6A5 #[true, true, true, true, true, true, true, true, true, false, true, false, false, false, false] rfl rfl rfl rfl (two_of HT_.out zG101) (by decide) (by decide) (fun K hK => ?_) (fun K hK => ?_)
  ·skip
   refine box_step ?hg (N := 9) ?hd (cs := #[.int .i64 0, .int .i64 0, .string (⟨#[]⟩ : ByteArray)]) (t := 139) ?hr ?_; (case hd => rfl); (case hg => rfl); (case hr => exact zH117)
   intro gb154 hg w10 hbox hb
   obtain ⟨n0_, n1_, n2_, n3_⟩ := zD4 (zp zG77 hb) (hbox) ((by rw [hg]; exact (zo zG77) : w.heap.size ≤ gb154)) ((by rw [hg]; exact (zo zG77) : w.heap.size ≤ gb154))
   clear HB
   have HB := n0_
   have BK154 := n1_
   have GW154 := n2_
   have GE154 := n3_
   clear n0_ n1_ n2_ n3_
   clear hb hbox hg
   refine hK.out _ _ ⟨((HB.out.cell (za w _ hw152_0)).trans hw152_0), ((HB.out.cell (za w _ hw152_1)).trans hw152_1), ((HB.out.cell (za w _ hw152_2)).trans hw152_2), ((HB.out.cell (za w _ hw153_0)).trans hw153_0), ((HB.out.cell (za w _ hw153_1)).trans hw153_1), ((HB.out.cell (za w _ hw153_2)).trans hw153_2), ((HB.out.cell (za w _ hw153_3)).trans hw153_3), ((HB.out.cell (za w _ hw153_4)).trans hw153_4)⟩ (fun hHeld => ?_)
   clear hK K
   refine norm_ (a' := ?_) ?_ ?_
   rotate_left
   ·show Act.put _ (some 9) _ = _
    simp only [Act.put, List.setIfInBounds_toArray, List.set_cons_zero, List.set_cons_succ, i64_w, i32_w]
    rfl
   refine one_ (i := 10) (N := some 10) b6A0 rfl rfl (one_of HT_.out zG101) (by decide) (fun K hK => ?_)
   refine box_step ?hg (N := 10) ?hd (cs := #[.string (⟨#[]⟩ : ByteArray), .int .i64 0, .int .i64 0, .int .i64 0, .slice none 0 0]) (t := 72) ?hr ?_; (case hd => rfl); (case hg => rfl); (case hr => exact zH117)
   intro gb155 hg w11 hbox hb
   obtain ⟨n0_, n1_, n2_, n3_, n4_, n5_, n6_⟩ := zD7 (zq (g := gb154) (o := .cells #[.int .i64 0, .int .i64 0, .string (⟨#[]⟩ : ByteArray)] 139 (0, 0)) zK208 hb) (zp zK186 hb) (hbox) ((by rw [hg]; exact (zo zK186) : w.heap.size ≤ gb155)) ((by rw [hg]; exact (zo zK186) : w.heap.size ≤ gb155)) ((by rw [hg]; exact Nat.ne_of_lt (zaa (g := gb154) (o := .cells #[.int .i64 0, .int .i64 0, .string (⟨#[]⟩ : ByteArray)] 139 (0, 0)) zK208) : gb154 ≠ gb155)) ((by rw [hg]; exact Nat.ne_of_gt (zaa (g := gb154) (o := .cells #[.int .i64 0, .int .i64 0, .string (⟨#[]⟩ : ByteArray)] 139 (0, 0)) zK208) : gb155 ≠ gb154))
   clear BK154 HB
   have BK154 := n0_
   have HB := n1_
   have BK155 := n2_
   have GW155 := n3_
   have GE155 := n4_
   have NB154_155 := n5_
   have NB155_154 := n6_
   clear n0_ n1_ n2_ n3_ n4_ n5_ n6_
   clear hb hbox hg
   refine hK.out _ _ ⟨((HB.out.cell (za w _ hw152_0)).trans hw152_0), ((HB.out.cell (za w _ hw152_1)).trans hw152_1), ((HB.out.cell (za w _ hw152_2)).trans hw152_2), ((HB.out.cell (za w _ hw153_0)).trans hw153_0), ((HB.out.cell (za w _ hw153_1)).trans hw153_1), ((HB.out.cell (za w _ hw153_2)).trans hw153_2), ((HB.out.cell (za w _ hw153_3)).trans hw153_3), ((HB.out.cell (za w _ hw153_4)).trans hw153_4)⟩ (fun hHeld => ?_)
   clear hK K
   refine norm_ (a' := ?_) ?_ ?_
   rotate_left
   ·show Act.put _ (some 10) _ = _
    simp only [Act.put, List.setIfInBounds_toArray, List.set_cons_zero, List.set_cons_succ, i64_w, i32_w]
    rfl
   exact norm_ zK214 (hCont (gb154, gb155) _ ⟨hHeld, zK208, zK209, GW154.out, GE154.out, NB155_154.out, NB154_155.out, GW155.out, GE155.out, (by repeat (first | (with_reducible first | exact HB.out | apply ze | apply zc | apply zd | refine zh ?_ GE154.out | refine zh ?_ GE155.out) | exact HB.out))⟩)
  ·skip
   refine box_step ?hg (N := 10) ?hd (cs := #[.string (⟨#[]⟩ : ByteArray), .int .i64 0, .int .i64 0, .int .i64 0, .slice none 0 0]) (t := 72) ?hr ?_; (case hd => rfl); (case hg => rfl); (case hr => exact zH117)
   intro gb155 hg w10 hbox hb
   obtain ⟨n0_, n1_, n2_, n3_⟩ := zD4 (zp zG77 hb) (hbox) ((by rw [hg]; exact (zo zG77) : w.heap.size ≤ gb155)) ((by rw [hg]; exact (zo zG77) : w.heap.size ≤ gb155))
   clear HB
   have HB := n0_
   have BK155 := n1_
   have GW155 := n2_
   have GE155 := n3_
   clear n0_ n1_ n2_ n3_
   clear hb hbox hg
   refine hK.out _ _ ⟨((HB.out.cell (za w _ hw152_0)).trans hw152_0), ((HB.out.cell (za w _ hw152_1)).trans hw152_1), ((HB.out.cell (za w _ hw152_2)).trans hw152_2), ((HB.out.cell (za w _ hw153_0)).trans hw153_0), ((HB.out.cell (za w _ hw153_1)).trans hw153_1), ((HB.out.cell (za w _ hw153_2)).trans hw153_2), ((HB.out.cell (za w _ hw153_3)).trans hw153_3), ((HB.out.cell (za w _ hw153_4)).trans hw153_4)⟩ (fun hHeld => ?_)
   clear hK K
   refine norm_ (a' := ?_) ?_ ?_
   rotate_left
   ·show Act.put _ (some 10) _ = _
    simp only [Act.put, List.setIfInBounds_toArray, List.set_cons_zero, List.set_cons_succ, i64_w, i32_w]
    rfl
   refine one_ (i := 9) (N := some 9) b6A0 rfl rfl (one_of HT_.out zG101) (by decide) (fun K hK => ?_)
   refine box_step ?hg (N := 9) ?hd (cs := #[.int .i64 0, .int .i64 0, .string (⟨#[]⟩ : ByteArray)]) (t := 139) ?hr ?_; (case hd => rfl); (case hg => rfl); (case hr => exact zH117)
   intro gb154 hg w11 hbox hb
   obtain ⟨n0_, n1_, n2_, n3_, n4_, n5_, n6_⟩ := zD7 (zq (g := gb155) (o := .cells #[.string (⟨#[]⟩ : ByteArray), .int .i64 0, .int .i64 0, .int .i64 0, .slice none 0 0] 72 (0, 0)) zK209 hb) (zp zK187 hb) (hbox) ((by rw [hg]; exact (zo zK187) : w.heap.size ≤ gb154)) ((by rw [hg]; exact (zo zK187) : w.heap.size ≤ gb154)) ((by rw [hg]; exact Nat.ne_of_lt (zaa (g := gb155) (o := .cells #[.string (⟨#[]⟩ : ByteArray), .int .i64 0, .int .i64 0, .int .i64 0, .slice none 0 0] 72 (0, 0)) zK209) : gb155 ≠ gb154)) ((by rw [hg]; exact Nat.ne_of_gt (zaa (g := gb155) (o := .cells #[.string (⟨#[]⟩ : ByteArray), .int .i64 0, .int .i64 0, .int .i64 0, .slice none 0 0] 72 (0, 0)) zK209) : gb154 ≠ gb155))
   clear BK155 HB
   have BK155 := n0_
   have HB := n1_
   have BK154 := n2_
   have GW154 := n3_
   have GE154 := n4_
   have NB155_154 := n5_
   have NB154_155 := n6_
   clear n0_ n1_ n2_ n3_ n4_ n5_ n6_
   clear hb hbox hg
   refine hK.out _ _ ⟨((HB.out.cell (za w _ hw152_0)).trans hw152_0), ((HB.out.cell (za w _ hw152_1)).trans hw152_1), ((HB.out.cell (za w _ hw152_2)).trans hw152_2), ((HB.out.cell (za w _ hw153_0)).trans hw153_0), ((HB.out.cell (za w _ hw153_1)).trans hw153_1), ((HB.out.cell (za w _ hw153_2)).trans hw153_2), ((HB.out.cell (za w _ hw153_3)).trans hw153_3), ((HB.out.cell (za w _ hw153_4)).trans hw153_4)⟩ (fun hHeld => ?_)
   clear hK K
   refine norm_ (a' := ?_) ?_ ?_
   rotate_left
   ·show Act.put _ (some 9) _ = _
    simp only [Act.put, List.setIfInBounds_toArray, List.set_cons_zero, List.set_cons_succ, i64_w, i32_w]
    rfl
   exact norm_ zK214 (hCont (gb154, gb155) _ ⟨hHeld, zK208, zK209, GW154.out, GE154.out, NB155_154.out, NB154_155.out, GW155.out, GE155.out, (by repeat (first | (with_reducible first | exact HB.out | apply ze | apply zc | apply zd | refine zh ?_ GE155.out | refine zh ?_ GE154.out) | exact HB.out))⟩)
 rintro ⟨gb154, gb155⟩ w12 ⟨hS_, h0_, h1_, h2_, h3_, h4_, h5_, h6_, h7_, h8_⟩
 have n0_ : Aside0 (w12.heap[gb154]? = some (.cells #[.int .i64 0, .int .i64 0, .string (⟨#[]⟩ : ByteArray)] 139 (0, 0))) := ⟨h0_⟩
 have n1_ : Aside0 (w12.heap[gb155]? = some (.cells #[.string (⟨#[]⟩ : ByteArray), .int .i64 0, .int .i64 0, .int .i64 0, .slice none 0 0] 72 (0, 0))) := ⟨h1_⟩
 have n2_ : Aside0 (w.heap.size ≤ gb154) := ⟨h2_⟩
 have n3_ : Aside0 (w.heap.size ≤ gb154) := ⟨h3_⟩
 have n4_ : Aside0 (gb155 ≠ gb154) := ⟨h4_⟩
 have n5_ : Aside0 (gb154 ≠ gb155) := ⟨h5_⟩
 have n6_ : Aside0 (w.heap.size ≤ gb155) := ⟨h6_⟩
 have n7_ : Aside0 (w.heap.size ≤ gb155) := ⟨h7_⟩
 have n8_ : Aside0 (Below w.heap.size w w12) := ⟨h8_⟩
 clear HB
 clear h0_ h1_ h2_ h3_ h4_ h5_ h6_ h7_ h8_
 have BK154 := n0_
 have BK155 := n1_
 have GW154 := n2_
 have GE154 := n3_
 have NB155_154 := n4_
 have NB154_155 := n5_
 have GW155 := n6_
 have GE155 := n7_
 have HB := n8_
 clear n0_ n1_ n2_ n3_ n4_ n5_ n6_ n7_ n8_
 have hHeld : w12.cell? (ad152.add (l2.length * 3)) = some (.int .i64 ((rd_T139 l0 (l2.length : Int)).f0)) ∧ w12.cell? ⟨(ad152.add (l2.length * 3)).block, (ad152.add (l2.length * 3)).off + 1, none⟩ = some (.int .i64 ((rd_T139 l0 (l2.length : Int)).f1)) ∧ w12.cell? ⟨(ad152.add (l2.length * 3)).block, (ad152.add (l2.length * 3)).off + 2, none⟩ = some (.string ((rd_T139 l0 (l2.length : Int)).f2)) ∧ w12.cell? (ad153.add ((a3).toNat * 5)) = some (.string ((rd_T72 l1 a3).f0)) ∧ w12.cell? ⟨(ad153.add ((a3).toNat * 5)).block, (ad153.add ((a3).toNat * 5)).off + 1, none⟩ = some (.int .i64 ((rd_T72 l1 a3).f1)) ∧ w12.cell? ⟨(ad153.add ((a3).toNat * 5)).block, (ad153.add ((a3).toNat * 5)).off + 2, none⟩ = some (.int .i64 ((rd_T72 l1 a3).f2)) ∧ w12.cell? ⟨(ad153.add ((a3).toNat * 5)).block, (ad153.add ((a3).toNat * 5)).off + 3, none⟩ = some (.int .i64 ((rd_T72 l1 a3).f3)) ∧ w12.cell? ⟨(ad153.add ((a3).toNat * 5)).block, (ad153.add ((a3).toNat * 5)).off + 4, none⟩ = some (.slice A153_4 ((rd_T72 l1 a3).f4).length c153_4) := hS_
 refine norm_ (a' := ?_) ?_ ?_
 rotate_left
 ·simp only [putAll, Act.put, List.setIfInBounds_toArray, List.set_cons_zero, List.set_cons_succ]
  rfl
 refine one_ (i := 11) (N := none) b6A6 rfl rfl (one_of HT_.out zG101) (by decide) (fun K hK => ?_)
 have hs13 : w12.cell? ⟨gb154, 0, none⟩ = some (.int .i64 0) := (zk BK154.out 0).trans rfl
 have hfs13 := zj BK154.out 0
 have hns13_1 := NB155_154.out
 have hms13_1 := NB154_155.out
 have hs14 : w12.cell? ⟨gb154, 1, none⟩ = some (.int .i64 0) := (zk BK154.out 1).trans rfl
 have hfs14 := zj BK154.out 1
 have hns14_1 := NB155_154.out
 have hms14_1 := NB154_155.out
 have hs15 : w12.cell? ⟨gb154, 2, none⟩ = some (.string (⟨#[]⟩ : ByteArray)) := (zk BK154.out 2).trans rfl
 have hfs15 := zj BK154.out 2
 have hns15_1 := NB155_154.out
 have hms15_1 := NB154_155.out
 refine skip_ (w1 := ?_) (by rfl) rfl ?_ ?_
 rotate_left
 ·go_simp
  rfl
 refine hK.out _ _ ⟨((cell_far (p := ⟨gb154, _, none⟩) zK136 _).trans (((cell_far (p := ⟨gb154, _, none⟩) zK136 _).trans (((cell_far (p := ⟨gb154, _, none⟩) zK136 _).trans (hHeld.1)))))), ((cell_far (p := ⟨gb154, _, none⟩) zK137 _).trans (((cell_far (p := ⟨gb154, _, none⟩) zK137 _).trans (((cell_far (p := ⟨gb154, _, none⟩) zK137 _).trans (hHeld.2.1)))))), ((cell_far (p := ⟨gb154, _, none⟩) zK138 _).trans (((cell_far (p := ⟨gb154, _, none⟩) zK138 _).trans (((cell_far (p := ⟨gb154, _, none⟩) zK138 _).trans (hHeld.2.2.1)))))), ((cell_far (p := ⟨gb154, _, none⟩) zK139 _).trans (((cell_far (p := ⟨gb154, _, none⟩) zK139 _).trans (((cell_far (p := ⟨gb154, _, none⟩) zK139 _).trans (hHeld.2.2.2.1)))))), ((cell_far (p := ⟨gb154, _, none⟩) zK140 _).trans (((cell_far (p := ⟨gb154, _, none⟩) zK140 _).trans (((cell_far (p := ⟨gb154, _, none⟩) zK140 _).trans (hHeld.2.2.2.2.1)))))), ((cell_far (p := ⟨gb154, _, none⟩) zK141 _).trans (((cell_far (p := ⟨gb154, _, none⟩) zK141 _).trans (((cell_far (p := ⟨gb154, _, none⟩) zK141 _).trans (hHeld.2.2.2.2.2.1)))))), ((cell_far (p := ⟨gb154, _, none⟩) zK142 _).trans (((cell_far (p := ⟨gb154, _, none⟩) zK142 _).trans (((cell_far (p := ⟨gb154, _, none⟩) zK142 _).trans (hHeld.2.2.2.2.2.2.1)))))), ((cell_far (p := ⟨gb154, _, none⟩) zK143 _).trans (((cell_far (p := ⟨gb154, _, none⟩) zK143 _).trans (((cell_far (p := ⟨gb154, _, none⟩) zK143 _).trans (hHeld.2.2.2.2.2.2.2))))))⟩ (fun hHeld => ?_)
 clear hK K
 refine one_ (i := 12) (N := none) b6A7 rfl rfl (one_of HT_.out zG101) (by decide) (fun K hK => ?_)
 have hs16 : w12.cell? ⟨gb155, 0, none⟩ = some (.string (⟨#[]⟩ : ByteArray)) := (zk BK155.out 0).trans rfl
 have hfs16 := zj BK155.out 0
 have hns16_0 := NB154_155.out
 have hms16_0 := NB155_154.out
 have hs17 : w12.cell? ⟨gb155, 1, none⟩ = some (.int .i64 0) := (zk BK155.out 1).trans rfl
 have hfs17 := zj BK155.out 1
 have hns17_0 := NB154_155.out
 have hms17_0 := NB155_154.out
 have hs18 : w12.cell? ⟨gb155, 2, none⟩ = some (.int .i64 0) := (zk BK155.out 2).trans rfl
 have hfs18 := zj BK155.out 2
 have hns18_0 := NB154_155.out
 have hms18_0 := NB155_154.out
 have hs19 : w12.cell? ⟨gb155, 3, none⟩ = some (.int .i64 0) := (zk BK155.out 3).trans rfl
 have hfs19 := zj BK155.out 3
 have hns19_0 := NB154_155.out
 have hms19_0 := NB155_154.out
 have hs20 : w12.cell? ⟨gb155, 4, none⟩ = some (.slice none 0 0) := (zk BK155.out 4).trans rfl
 have hfs20 := zj BK155.out 4
 have hns20_0 := NB154_155.out
 have hms20_0 := NB155_154.out
 refine skip_ (w1 := ?_) (by rfl) rfl ?_ ?_
 rotate_left
 ·go_simp
  rfl
 refine hK.out _ _ ⟨((cell_far (p := ⟨gb155, _, none⟩) zK144 _).trans (((cell_far (p := ⟨gb155, _, none⟩) zK144 _).trans (((cell_far (p := ⟨gb155, _, none⟩) zK144 _).trans (((cell_far (p := ⟨gb155, _, none⟩) zK144 _).trans (((cell_far (p := ⟨gb155, _, none⟩) zK144 _).trans (hHeld.1)))))))))), ((cell_far (p := ⟨gb155, _, none⟩) zK145 _).trans (((cell_far (p := ⟨gb155, _, none⟩) zK145 _).trans (((cell_far (p := ⟨gb155, _, none⟩) zK145 _).trans (((cell_far (p := ⟨gb155, _, none⟩) zK145 _).trans (((cell_far (p := ⟨gb155, _, none⟩) zK145 _).trans (hHeld.2.1)))))))))), ((cell_far (p := ⟨gb155, _, none⟩) zK146 _).trans (((cell_far (p := ⟨gb155, _, none⟩) zK146 _).trans (((cell_far (p := ⟨gb155, _, none⟩) zK146 _).trans (((cell_far (p := ⟨gb155, _, none⟩) zK146 _).trans (((cell_far (p := ⟨gb155, _, none⟩) zK146 _).trans (hHeld.2.2.1)))))))))), ((cell_far (p := ⟨gb155, _, none⟩) zK147 _).trans (((cell_far (p := ⟨gb155, _, none⟩) zK147 _).trans (((cell_far (p := ⟨gb155, _, none⟩) zK147 _).trans (((cell_far (p := ⟨gb155, _, none⟩) zK147 _).trans (((cell_far (p := ⟨gb155, _, none⟩) zK147 _).trans (hHeld.2.2.2.1)))))))))), ((cell_far (p := ⟨gb155, _, none⟩) zK148 _).trans (((cell_far (p := ⟨gb155, _, none⟩) zK148 _).trans (((cell_far (p := ⟨gb155, _, none⟩) zK148 _).trans (((cell_far (p := ⟨gb155, _, none⟩) zK148 _).trans (((cell_far (p := ⟨gb155, _, none⟩) zK148 _).trans (hHeld.2.2.2.2.1)))))))))), ((cell_far (p := ⟨gb155, _, none⟩) zK149 _).trans (((cell_far (p := ⟨gb155, _, none⟩) zK149 _).trans (((cell_far (p := ⟨gb155, _, none⟩) zK149 _).trans (((cell_far (p := ⟨gb155, _, none⟩) zK149 _).trans (((cell_far (p := ⟨gb155, _, none⟩) zK149 _).trans (hHeld.2.2.2.2.2.1)))))))))), ((cell_far (p := ⟨gb155, _, none⟩) zK150 _).trans (((cell_far (p := ⟨gb155, _, none⟩) zK150 _).trans (((cell_far (p := ⟨gb155, _, none⟩) zK150 _).trans (((cell_far (p := ⟨gb155, _, none⟩) zK150 _).trans (((cell_far (p := ⟨gb155, _, none⟩) zK150 _).trans (hHeld.2.2.2.2.2.2.1)))))))))), ((cell_far (p := ⟨gb155, _, none⟩) zK151 _).trans (((cell_far (p := ⟨gb155, _, none⟩) zK151 _).trans (((cell_far (p := ⟨gb155, _, none⟩) zK151 _).trans (((cell_far (p := ⟨gb155, _, none⟩) zK151 _).trans (((cell_far (p := ⟨gb155, _, none⟩) zK151 _).trans (hHeld.2.2.2.2.2.2.2))))))))))⟩ (fun hHeld => ?_)
 clear hK K
 refine zP 13 11 b6A8 HT_ ?_
 refine zP 14 12 b6A9 HT_ ?_
 refine done_ (done_of HT_.out zG101) ?_
 try go_wp2
 go_loopg [11, 12, 26] k (fun kq v11 v12 v26 w' => ∃ (x11_1 : Int) (x12_1 : Bool) (x26_1 : Int), v11 = .int .i64 x11_1 ∧ v12 = .bool x12_1 ∧ v26 = .int .i64 x26_1 ∧ Aside0 (impl_shiftCode.l0 kq l0 a3 x11_1 x12_1 l2 (l2.length : Int) x26_1 ((rd_T139 l0 (l2.length : Int)).f0) ((rd_T139 l0 (l2.length : Int)).f1) ((rd_T139 l0 (l2.length : Int)).f2) ((rd_T72 l1 a3).f0) ((rd_T72 l1 a3).f1) ((rd_T72 l1 a3).f2) ((rd_T72 l1 a3).f3) ((rd_T72 l1 a3).f4) = some r) ∧ Aside0 (kq ≤ k) ∧ Aside0 (w'.heap[gb154]? = some (.cells #[.int .i64 ((rd_T139 l0 (l2.length : Int)).f0), .int .i64 ((rd_T139 l0 (l2.length : Int)).f1), .string ((rd_T139 l0 (l2.length : Int)).f2)] 139 (0, 0))) ∧ Aside0 (w'.heap[gb155]? = some (.cells #[.string ((rd_T72 l1 a3).f0), .int .i64 ((rd_T72 l1 a3).f1), .int .i64 ((rd_T72 l1 a3).f2), .int .i64 ((rd_T72 l1 a3).f3), (.slice A153_4 ((rd_T72 l1 a3).f4).length c153_4)] 72 (0, 0))) ∧ Aside0 (Below w.heap.size w w'))
 case atStart => exact ⟨(0), (false), (0), zG100, zG100, zG100, H', ⟨Nat.le_refl _⟩, ⟨by (with_reducible repeat (first | refine zf ?_ _ | refine zi ?_ | refine zg ?_ _)); refine zw ?_ NB154_155.out _; (with_reducible repeat (first | refine zf ?_ _ | refine zi ?_ | refine zg ?_ _)); refine zw ?_ NB154_155.out _; (with_reducible repeat (first | refine zf ?_ _ | refine zi ?_ | refine zg ?_ _)); refine zw ?_ NB154_155.out _; (with_reducible repeat (first | refine zf ?_ _ | refine zi ?_ | refine zg ?_ _)); refine zw ?_ NB154_155.out _; (with_reducible repeat (first | refine zf ?_ _ | refine zi ?_ | refine zg ?_ _)); refine zw ?_ NB154_155.out _; (with_reducible repeat (first | refine zf ?_ _ | refine zi ?_ | refine zg ?_ _)); refine zs (cs := #[.int .i64 ((rd_T139 l0 (l2.length : Int)).f0), .int .i64 ((rd_T139 l0 (l2.length : Int)).f1), .string (⟨#[]⟩ : ByteArray)]) ?_ 2 _ rfl; (with_reducible repeat (first | refine zf ?_ _ | refine zi ?_ | refine zg ?_ _)); refine zs (cs := #[.int .i64 ((rd_T139 l0 (l2.length : Int)).f0), .int .i64 0, .string (⟨#[]⟩ : ByteArray)]) ?_ 1 _ rfl; (with_reducible repeat (first | refine zf ?_ _ | refine zi ?_ | refine zg ?_ _)); refine zs (cs := #[.int .i64 0, .int .i64 0, .string (⟨#[]⟩ : ByteArray)]) ?_ 0 _ rfl; (with_reducible repeat (first | refine zf ?_ _ | refine zi ?_ | refine zg ?_ _)); exact BK154.out⟩, ⟨by (with_reducible repeat (first | refine zf ?_ _ | refine zi ?_ | refine zg ?_ _)); refine zs (cs := #[.string ((rd_T72 l1 a3).f0), .int .i64 ((rd_T72 l1 a3).f1), .int .i64 ((rd_T72 l1 a3).f2), .int .i64 ((rd_T72 l1 a3).f3), .slice none 0 0]) ?_ 4 _ rfl; (with_reducible repeat (first | refine zf ?_ _ | refine zi ?_ | refine zg ?_ _)); refine zs (cs := #[.string ((rd_T72 l1 a3).f0), .int .i64 ((rd_T72 l1 a3).f1), .int .i64 ((rd_T72 l1 a3).f2), .int .i64 0, .slice none 0 0]) ?_ 3 _ rfl; (with_reducible repeat (first | refine zf ?_ _ | refine zi ?_ | refine zg ?_ _)); refine zs (cs := #[.string ((rd_T72 l1 a3).f0), .int .i64 ((rd_T72 l1 a3).f1), .int .i64 0, .int .i64 0, .slice none 0 0]) ?_ 2 _ rfl; (with_reducible repeat (first | refine zf ?_ _ | refine zi ?_ | refine zg ?_ _)); refine zs (cs := #[.string ((rd_T72 l1 a3).f0), .int .i64 0, .int .i64 0, .int .i64 0, .slice none 0 0]) ?_ 1 _ rfl; (with_reducible repeat (first | refine zf ?_ _ | refine zi ?_ | refine zg ?_ _)); refine zs (cs := #[.string (⟨#[]⟩ : ByteArray), .int .i64 0, .int .i64 0, .int .i64 0, .slice none 0 0]) ?_ 0 _ rfl; (with_reducible repeat (first | refine zf ?_ _ | refine zi ?_ | refine zg ?_ _)); refine zw ?_ NB155_154.out _; (with_reducible repeat (first | refine zf ?_ _ | refine zi ?_ | refine zg ?_ _)); refine zw ?_ NB155_154.out _; (with_reducible repeat (first | refine zf ?_ _ | refine zi ?_ | refine zg ?_ _)); refine zw ?_ NB155_154.out _; (with_reducible repeat (first | refine zf ?_ _ | refine zi ?_ | refine zg ?_ _)); exact BK155.out⟩, ⟨zH40⟩⟩
 case round =>
  clear H'
  try clear c1
  try clear c2
  try clear c5
  try clear c5b0
  try clear c5b1
  try clear c6
  try clear c6b0
  try clear c6b1
  try clear c7
  try clear c7b0
  try clear c8
  try clear c8b0
  try clear hx152_0
  try clear hx152_1
  try clear hx152_2
  try clear hx153_0
  try clear hx153_1
  try clear hx153_2
  try clear hx153_3
  try clear hx153_4
  try clear p152
  try clear p153
  try clear q152
  try clear q153
  obtain ⟨x11_1, x12_1, x26_1, rfl, rfl, rfl, HA, HK1, BK154, BK155, HB⟩ := hrel
  cases gk with
  | zero => exact absurd HA.out (by simp [impl_shiftCode.l0])
  | succ k1 =>
   have H := HA.out
   clear HA
   simp only [impl_shiftCode.l0] at H
   by_cases c21 : x26_1 < (l2.length : Int)
   rotate_left
   ·rw [if_neg c21] at H
    have c21b0 := decide_eq_false c21
    clear c21
    replace H := Option.bind_eq_some_iff.mp H
    obtain ⟨t160, A310, H⟩ := H
    replace H : (if t160 = true then (if x12_1 = true then (some 12) else (if (wrap64 ((wrap64 (x11_1 + ((rd_T139 l0 (l2.length : Int)).f1))) - ((rd_T139 l0 (l2.length : Int)).f0))) > ((rd_T72 l1 a3).f1) then (some 11) else (some 0))) else (some 13)) = some r := H
    have A31 := zb A310
    clear A310
    by_cases c32 : t160 = true
    rotate_left
    ·replace c32 := Bool.eq_false_iff.mpr c32
     subst c32
     have H1 : (some 13) = some r := by rw [if_neg (show ¬ (false = true) by decide)] at H; exact H
     clear H
     have H := H1
     clear H1
     obtain rfl := Option.some.inj H
     have hnb44 := NB155_154.out
     have hnc44 := NB154_155.out
     obtain ⟨hcz45_0, hcz45_1, hcz45_2, hcz45_3, hcz45_4, hfz45_0, hfz45_1, hfz45_2, hfz45_3, hfz45_4⟩ := zB5 BK155.out
     obtain ⟨hcz46_0, hcz46_1, hcz46_2, hfz46_0, hfz46_1, hfz46_2⟩ := zB3 BK154.out
     go_wp2_with (first | ((with_reducible refine gate_callee (f := 132) rfl ?_); refine goesL_ (some 67) rfl rfl Try.func132 zG101 rfl #[.slice A153_4 ((rd_T72 l1 a3).f4).length c153_4, .string ((rd_T139 l0 (l2.length : Int)).f2)] rfl zG67 ?_; (with_reducible refine (slices_Contains_string_string.calls k1 _ _ ((rd_T72 l1 a3).f4) ((rd_T139 l0 (l2.length : Int)).f2) false _ ?side1 ?side2 A31.out).mono ?_); (case side1 => exact zH53); (case side2 => exact HC153_4.out); rintro e w' ⟨rfl, ⟨nd, rfl⟩⟩; refine ⟨_, rfl, ?_⟩))
     go_ret
     exact zH19
    subst c32
    have H1 : (if x12_1 = true then (some 12) else (if (wrap64 ((wrap64 (x11_1 + ((rd_T139 l0 (l2.length : Int)).f1))) - ((rd_T139 l0 (l2.length : Int)).f0))) > ((rd_T72 l1 a3).f1) then (some 11) else (some 0))) = some r := by rw [if_pos rfl] at H; exact H
    clear H
    have H := H1
    clear H1
    by_cases c33 : x12_1 = true
    ·subst c33
     have H1 : (some 12) = some r := by rw [if_pos rfl] at H; exact H
     clear H
     have H := H1
     clear H1
     obtain rfl := Option.some.inj H
     have hnb34 := NB155_154.out
     have hnc34 := NB154_155.out
     obtain ⟨hcz35_0, hcz35_1, hcz35_2, hcz35_3, hcz35_4, hfz35_0, hfz35_1, hfz35_2, hfz35_3, hfz35_4⟩ := zB5 BK155.out
     obtain ⟨hcz36_0, hcz36_1, hcz36_2, hfz36_0, hfz36_1, hfz36_2⟩ := zB3 BK154.out
     go_wp2_with (first | ((with_reducible refine gate_callee (f := 132) rfl ?_); refine goesL_ (some 67) rfl rfl Try.func132 zG101 rfl #[.slice A153_4 ((rd_T72 l1 a3).f4).length c153_4, .string ((rd_T139 l0 (l2.length : Int)).f2)] rfl zG67 ?_; (with_reducible refine (slices_Contains_string_string.calls k1 _ _ ((rd_T72 l1 a3).f4) ((rd_T139 l0 (l2.length : Int)).f2) true _ ?side1 ?side2 A31.out).mono ?_); (case side1 => exact zH53); (case side2 => exact HC153_4.out); rintro e w' ⟨rfl, ⟨nd, rfl⟩⟩; refine ⟨_, rfl, ?_⟩))
     go_ret
     exact zH19
    replace c33 := Bool.eq_false_iff.mpr c33
    subst c33
    have H1 : (if (wrap64 ((wrap64 (x11_1 + ((rd_T139 l0 (l2.length : Int)).f1))) - ((rd_T139 l0 (l2.length : Int)).f0))) > ((rd_T72 l1 a3).f1) then (some 11) else (some 0)) = some r := by rw [if_neg (show ¬ (false = true) by decide)] at H; exact H
    clear H
    have H := H1
    clear H1
    by_cases c37 : (wrap64 ((wrap64 (x11_1 + ((rd_T139 l0 (l2.length : Int)).f1))) - ((rd_T139 l0 (l2.length : Int)).f0))) > ((rd_T72 l1 a3).f1)
    rotate_left
    ·rw [if_neg c37] at H
     have c37b0 : decide (((rd_T72 l1 a3).f1) < (wrap64 ((wrap64 (x11_1 + ((rd_T139 l0 (l2.length : Int)).f1))) - ((rd_T139 l0 (l2.length : Int)).f0)))) = false := decide_eq_false c37
     clear c37
     obtain rfl := Option.some.inj H
     have hnb41 := NB155_154.out
     have hnc41 := NB154_155.out
     obtain ⟨hcz42_0, hcz42_1, hcz42_2, hcz42_3, hcz42_4, hfz42_0, hfz42_1, hfz42_2, hfz42_3, hfz42_4⟩ := zB5 BK155.out
     obtain ⟨hcz43_0, hcz43_1, hcz43_2, hfz43_0, hfz43_1, hfz43_2⟩ := zB3 BK154.out
     go_wp2_with (first | ((with_reducible refine gate_callee (f := 132) rfl ?_); refine goesL_ (some 67) rfl rfl Try.func132 zG101 rfl #[.slice A153_4 ((rd_T72 l1 a3).f4).length c153_4, .string ((rd_T139 l0 (l2.length : Int)).f2)] rfl zG67 ?_; (with_reducible refine (slices_Contains_string_string.calls k1 _ _ ((rd_T72 l1 a3).f4) ((rd_T139 l0 (l2.length : Int)).f2) true _ ?side1 ?side2 A31.out).mono ?_); (case side1 => exact zH53); (case side2 => exact HC153_4.out); rintro e w' ⟨rfl, ⟨nd, rfl⟩⟩; refine ⟨_, rfl, ?_⟩))
     go_ret
     exact zH19
    rw [if_pos c37] at H
    have c37b0 : decide (((rd_T72 l1 a3).f1) < (wrap64 ((wrap64 (x11_1 + ((rd_T139 l0 (l2.length : Int)).f1))) - ((rd_T139 l0 (l2.length : Int)).f0)))) = true := decide_eq_true c37
    clear c37
    obtain rfl := Option.some.inj H
    have hnb38 := NB155_154.out
    have hnc38 := NB154_155.out
    obtain ⟨hcz39_0, hcz39_1, hcz39_2, hcz39_3, hcz39_4, hfz39_0, hfz39_1, hfz39_2, hfz39_3, hfz39_4⟩ := zB5 BK155.out
    obtain ⟨hcz40_0, hcz40_1, hcz40_2, hfz40_0, hfz40_1, hfz40_2⟩ := zB3 BK154.out
    go_wp2_with (first | ((with_reducible refine gate_callee (f := 132) rfl ?_); refine goesL_ (some 67) rfl rfl Try.func132 zG101 rfl #[.slice A153_4 ((rd_T72 l1 a3).f4).length c153_4, .string ((rd_T139 l0 (l2.length : Int)).f2)] rfl zG67 ?_; (with_reducible refine (slices_Contains_string_string.calls k1 _ _ ((rd_T72 l1 a3).f4) ((rd_T139 l0 (l2.length : Int)).f2) true _ ?side1 ?side2 A31.out).mono ?_); (case side1 => exact zH53); (case side2 => exact HC153_4.out); rintro e w' ⟨rfl, ⟨nd, rfl⟩⟩; refine ⟨_, rfl, ?_⟩))
    go_ret
    exact zH19
   rw [if_pos c21] at H
   have c21b0 := decide_eq_true c21
   clear c21
   by_cases c22 : 0 ≤ x26_1
   rotate_left
   ·rw [if_neg c22] at H
    exact absurd H (by simp)
   rw [if_pos c22] at H
   have c22b0 := decide_eq_true c22
   clear c22
   by_cases c23 : x26_1 < (l2.length : Int)
   rotate_left
   ·rw [if_neg c23] at H
    exact absurd H (by simp)
   rw [if_pos c23] at H
   have c23b0 := decide_eq_true c23
   clear c23
   by_cases c24 : (rd l2 x26_1) = a3
   rotate_left
   ·rw [if_neg c24] at H
    have c24b0 : ((rd l2 x26_1) == a3) = false := beq_eq_false_iff_ne.mpr c24
    have c24b1 : ((rd l2 x26_1) != a3) = true := bne_iff_ne.mpr c24
    have H' := zb H
    clear H
    have p156 : 0 ≤ (x26_1 : Int) := zO
    have q156 : x26_1 < (l2.length : Int) := zO
    obtain ⟨ad156, e156, hx156_0⟩ := zap HR2.out x26_1 p156 q156
    cases e156
    replace hx156_0 := (HB.out.cell (za w _ hx156_0)).trans hx156_0
    replace p156 := eq_true p156
    replace q156 := eq_true q156
    go_wp2
    go_roundg k1
    case measure => have := HK1.out; omega
    case rel => exact ⟨(x11_1), (x12_1), (wrap64 (x26_1 + 1)), zG100, zG100, zG100, H', ⟨zH120⟩, ⟨zH92⟩, ⟨zH93⟩, ⟨zH40⟩⟩
   rw [if_pos c24] at H
   have c24b0 : ((rd l2 x26_1) == a3) = true := beq_iff_eq.mpr c24
   have c24b1 : ((rd l2 x26_1) != a3) = false := bne_eq_false_iff_eq.mpr c24
   clear c24
   by_cases c25 : x26_1 < (l0.length : Int)
   rotate_left
   ·rw [if_neg c25] at H
    exact absurd H (by simp)
   rw [if_pos c25] at H
   have c25b0 := decide_eq_true c25
   clear c25
   by_cases c26 : x12_1 = true
   ·subst c26
    have H1 : (impl_shiftCode.l0 k1 l0 a3 (wrap64 (x11_1 + (wrap64 (((rd_T139 l0 x26_1).f1) - ((rd_T139 l0 x26_1).f0))))) true l2 (l2.length : Int) (wrap64 (x26_1 + 1)) ((rd_T139 l0 (l2.length : Int)).f0) ((rd_T139 l0 (l2.length : Int)).f1) ((rd_T139 l0 (l2.length : Int)).f2) ((rd_T72 l1 a3).f0) ((rd_T72 l1 a3).f1) ((rd_T72 l1 a3).f2) ((rd_T72 l1 a3).f3) ((rd_T72 l1 a3).f4)) = some r := by rw [if_pos rfl] at H; exact H
    clear H
    have H := H1
    clear H1
    have H' := zb H
    clear H
    have p156 : 0 ≤ (x26_1 : Int) := zO
    have q156 : x26_1 < (l2.length : Int) := zO
    obtain ⟨ad156, e156, hx156_0⟩ := zap HR2.out x26_1 p156 q156
    cases e156
    replace hx156_0 := (HB.out.cell (za w _ hx156_0)).trans hx156_0
    replace p156 := eq_true p156
    replace q156 := eq_true q156
    try go_wp2
    obtain ⟨n0_, n1_, n2_⟩ := zD3 (zi BK154.out) (zi BK155.out) (zd HB.out)
    clear BK154 BK155 HB
    have BK154 := n0_
    have BK155 := n1_
    have HB := n2_
    clear n0_ n1_ n2_
    have p157 : 0 ≤ (x26_1 : Int) := zO
    have q157 : x26_1 < (l0.length : Int) := zO
    obtain ⟨ad157, e157, hx157_0, hx157_1, hx157_2⟩ := at_T139 HR0.out x26_1 p157 q157
    have hw157_2 := hx157_2
    have hw157_1 := hx157_1
    have hw157_0 := hx157_0
    obtain rfl : ad152 = ad157 := (by injection e157)
    replace hx157_0 := (HB.out.cell (za w _ hx157_0)).trans hx157_0
    replace hx157_1 := (HB.out.cell (za w _ hx157_1)).trans hx157_1
    replace hx157_2 := (HB.out.cell (za w _ hx157_2)).trans hx157_2
    replace p157 := eq_true p157
    replace q157 := eq_true q157
    have p158 : 0 ≤ (x26_1 : Int) := zO
    have q158 : x26_1 < (l0.length : Int) := zO
    obtain ⟨ad158, e158, hx158_0, hx158_1, hx158_2⟩ := at_T139 HR0.out x26_1 p158 q158
    have hw158_2 := hx158_2
    have hw158_1 := hx158_1
    have hw158_0 := hx158_0
    obtain rfl : ad152 = ad158 := (by injection e158)
    replace hx158_0 := (HB.out.cell (za w _ hx158_0)).trans hx158_0
    replace hx158_1 := (HB.out.cell (za w _ hx158_1)).trans hx158_1
    replace hx158_2 := (HB.out.cell (za w _ hx158_2)).trans hx158_2
    replace p158 := eq_true p158
    replace q158 := eq_true q158
    refine start_ (n := 14) (S := fun w' => w'.cell? (ad152.add ((x26_1).toNat * 3)) = some (.int .i64 ((rd_T139 l0 x26_1).f0)) ∧ w'.cell? ⟨(ad152.add ((x26_1).toNat * 3)).block, (ad152.add ((x26_1).toNat * 3)).off + 1, none⟩ = some (.int .i64 ((rd_T139 l0 x26_1).f1)) ∧ w'.cell? ⟨(ad152.add ((x26_1).toNat * 3)).block, (ad152.add ((x26_1).toNat * 3)).off + 2, none⟩ = some (.string ((rd_T139 l0 x26_1).f2)) ∧ w'.cell? (ad152.add ((x26_1).toNat * 3)) = some (.int .i64 ((rd_T139 l0 x26_1).f0)) ∧ w'.cell? ⟨(ad152.add ((x26_1).toNat * 3)).block, (ad152.add ((x26_1).toNat * 3)).off + 1, none⟩ = some (.int .i64 ((rd_T139 l0 x26_1).f1)) ∧ w'.cell? ⟨(ad152.add ((x26_1).toNat * 3)).block, (ad152.add ((x26_1).toNat * 3)).off + 2, none⟩ = some (.string ((rd_T139 l0 x26_1).f2))) (ds := []) b6A13 zG101 rfl rfl ⟨((HB.out.cell (za w _ hw157_0)).trans hw157_0), ((HB.out.cell (za w _ hw157_1)).trans hw157_1), ((HB.out.cell (za w _ hw157_2)).trans hw157_2), ((HB.out.cell (za w _ hw158_0)).trans hw158_0), ((HB.out.cell (za w _ hw158_1)).trans hw158_1), ((HB.out.cell (za w _ hw158_2)).trans hw158_2)⟩ (fun hHeld => ?_); refine with_tabW impl_shiftCode.tab6 impl_shiftCode.bits6 (fun HT_ HW_ => ?_)
    generalize wr.drew = w27 at BK154 BK155 HB hx157_0 hx157_1 hx157_2 hx158_0 hx158_1 hx158_2 hHeld ⊢
    refine zP 0 34 b6A14 HT_ ?_
    refine zP 1 35 b6A15 HT_ ?_
    refine zP 2 36 b6A16 HT_ ?_
    refine zP 3 37 b6A17 HT_ ?_
    refine zP 4 38 b6A18 HT_ ?_
    refine zP 6 40 b6A19 HT_ ?_
    refine zP 7 41 b6A20 HT_ ?_
    refine zP 8 42 b6A21 HT_ ?_
    refine zP 9 43 b6A22 HT_ ?_
    refine zQ 5 39 b6A23 HT_ HW_ hHeld ?_
    refine zQ 10 44 b6A24 HT_ HW_ hHeld ?_
    refine zP 11 45 b6A25 HT_ ?_
    refine zP 12 46 b6A26 HT_ ?_
    refine zP 13 11 b6A27 HT_ ?_
    refine done_ (done_of HT_.out zG101) ?_
    try go_wp2
    obtain ⟨n0_, n1_, n2_⟩ := zD3 (zi BK154.out) (zi BK155.out) (zd HB.out)
    clear BK154 BK155 HB
    have BK154 := n0_
    have BK155 := n1_
    have HB := n2_
    clear n0_ n1_ n2_
    refine start_ (n := 15) (S := fun w' => True) (ds := []) b6A1 zG101 rfl rfl trivial (fun hHeld => ?_); refine with_tabW impl_shiftCode.tab7 impl_shiftCode.bits7 (fun HT_ HW_ => ?_)
    generalize w27.drew = w28 at BK154 BK155 HB hHeld ⊢
    refine zP 0 47 b6A2 HT_ ?_
    refine zP 1 48 b6A3 HT_ ?_
    refine zU 2 49 b6A4 HT_ ?_
    refine zU 3 50 b6A10 HT_ ?_
    refine zU 4 51 #[true, true, true, true, true, false, false, false, false, false, false, false, false, false, false] HT_ ?_
    refine zU 5 52 #[true, true, true, true, true, true, false, false, false, false, false, false, false, false, false] HT_ ?_
    refine zU 6 53 #[true, true, true, true, true, true, true, false, false, false, false, false, false, false, false] HT_ ?_
    refine zU 7 54 b6A11 HT_ ?_
    refine zU 8 55 b6A12 HT_ ?_
    refine zU 9 56 b6A5 HT_ ?_
    refine zU 10 57 b6A0 HT_ ?_
    refine zU 11 58 b6A6 HT_ ?_
    refine zU 12 59 b6A7 HT_ ?_
    refine zP 13 60 b6A8 HT_ ?_
    refine zP 14 12 b6A9 HT_ ?_
    refine done_ (done_of HT_.out zG101) ?_
    try go_wp2
    go_roundg k1
    case measure => have := HK1.out; omega
    case rel => exact ⟨(wrap64 (x11_1 + (wrap64 (((rd_T139 l0 x26_1).f1) - ((rd_T139 l0 x26_1).f0))))), (true), (wrap64 (x26_1 + 1)), zG100, zG100, zG100, H', ⟨zH120⟩, ⟨zH92⟩, ⟨zH93⟩, ⟨zH40⟩⟩
   replace c26 := Bool.eq_false_iff.mpr c26
   subst c26
   have H1 : (impl_shiftCode.l0 k1 l0 a3 (wrap64 (x11_1 + (wrap64 (((rd_T139 l0 x26_1).f1) - ((rd_T139 l0 x26_1).f0))))) (decide (((rd_T139 l0 (l2.length : Int)).f0) < (wrap64 (((rd_T139 l0 x26_1).f1) + ((rd_T72 l1 a3).f2))))) l2 (l2.length : Int) (wrap64 (x26_1 + 1)) ((rd_T139 l0 (l2.length : Int)).f0) ((rd_T139 l0 (l2.length : Int)).f1) ((rd_T139 l0 (l2.length : Int)).f2) ((rd_T72 l1 a3).f0) ((rd_T72 l1 a3).f1) ((rd_T72 l1 a3).f2) ((rd_T72 l1 a3).f3) ((rd_T72 l1 a3).f4)) = some r := by rw [if_neg (show ¬ (false = true) by decide)] at H; exact H
   clear H
   have H := H1
   clear H1
   have H' := zb H
   clear H
   have p156 : 0 ≤ (x26_1 : Int) := zO
   have q156 : x26_1 < (l2.length : Int) := zO
   obtain ⟨ad156, e156, hx156_0⟩ := zap HR2.out x26_1 p156 q156
   cases e156
   replace hx156_0 := (HB.out.cell (za w _ hx156_0)).trans hx156_0
   replace p156 := eq_true p156
   replace q156 := eq_true q156
   try go_wp2
   obtain ⟨n0_, n1_, n2_⟩ := zD3 (zi BK154.out) (zi BK155.out) (zd HB.out)
   clear BK154 BK155 HB
   have BK154 := n0_
   have BK155 := n1_
   have HB := n2_
   clear n0_ n1_ n2_
   have p157 : 0 ≤ (x26_1 : Int) := zO
   have q157 : x26_1 < (l0.length : Int) := zO
   obtain ⟨ad157, e157, hx157_0, hx157_1, hx157_2⟩ := at_T139 HR0.out x26_1 p157 q157
   have hw157_2 := hx157_2
   have hw157_1 := hx157_1
   have hw157_0 := hx157_0
   obtain rfl : ad152 = ad157 := (by injection e157)
   replace hx157_0 := (HB.out.cell (za w _ hx157_0)).trans hx157_0
   replace hx157_1 := (HB.out.cell (za w _ hx157_1)).trans hx157_1
   replace hx157_2 := (HB.out.cell (za w _ hx157_2)).trans hx157_2
   replace p157 := eq_true p157
   replace q157 := eq_true q157
   have p158 : 0 ≤ (x26_1 : Int) := zO
   have q158 : x26_1 < (l0.length : Int) := zO
   obtain ⟨ad158, e158, hx158_0, hx158_1, hx158_2⟩ := at_T139 HR0.out x26_1 p158 q158
   have hw158_2 := hx158_2
   have hw158_1 := hx158_1
   have hw158_0 := hx158_0
   obtain rfl : ad152 = ad158 := (by injection e158)
   replace hx158_0 := (HB.out.cell (za w _ hx158_0)).trans hx158_0
   replace hx158_1 := (HB.out.cell (za w _ hx158_1)).trans hx158_1
   replace hx158_2 := (HB.out.cell (za w _ hx158_2)).trans hx158_2
   replace p158 := eq_true p158
   replace q158 := eq_true q158
   refine start_ (n := 14) (S := fun w' => w'.cell? (ad152.add ((x26_1).toNat * 3)) = some (.int .i64 ((rd_T139 l0 x26_1).f0)) ∧ w'.cell? ⟨(ad152.add ((x26_1).toNat * 3)).block, (ad152.add ((x26_1).toNat * 3)).off + 1, none⟩ = some (.int .i64 ((rd_T139 l0 x26_1).f1)) ∧ w'.cell? ⟨(ad152.add ((x26_1).toNat * 3)).block, (ad152.add ((x26_1).toNat * 3)).off + 2, none⟩ = some (.string ((rd_T139 l0 x26_1).f2)) ∧ w'.cell? (ad152.add ((x26_1).toNat * 3)) = some (.int .i64 ((rd_T139 l0 x26_1).f0)) ∧ w'.cell? ⟨(ad152.add ((x26_1).toNat * 3)).block, (ad152.add ((x26_1).toNat * 3)).off + 1, none⟩ = some (.int .i64 ((rd_T139 l0 x26_1).f1)) ∧ w'.cell? ⟨(ad152.add ((x26_1).toNat * 3)).block, (ad152.add ((x26_1).toNat * 3)).off + 2, none⟩ = some (.string ((rd_T139 l0 x26_1).f2))) (ds := []) b6A13 zG101 rfl rfl ⟨((HB.out.cell (za w _ hw157_0)).trans hw157_0), ((HB.out.cell (za w _ hw157_1)).trans hw157_1), ((HB.out.cell (za w _ hw157_2)).trans hw157_2), ((HB.out.cell (za w _ hw158_0)).trans hw158_0), ((HB.out.cell (za w _ hw158_1)).trans hw158_1), ((HB.out.cell (za w _ hw158_2)).trans hw158_2)⟩ (fun hHeld => ?_); refine with_tabW impl_shiftCode.tab6 impl_shiftCode.bits6 (fun HT_ HW_ => ?_)
   generalize wr.drew = w29 at BK154 BK155 HB hx157_0 hx157_1 hx157_2 hx158_0 hx158_1 hx158_2 hHeld ⊢
   refine zP 0 34 b6A14 HT_ ?_
   refine zP 1 35 b6A15 HT_ ?_
   refine zP 2 36 b6A16 HT_ ?_
   refine zP 3 37 b6A17 HT_ ?_
   refine zP 4 38 b6A18 HT_ ?_
   refine zP 6 40 b6A19 HT_ ?_
   refine zP 7 41 b6A20 HT_ ?_
   refine zP 8 42 b6A21 HT_ ?_
   refine zP 9 43 b6A22 HT_ ?_
   refine zQ 5 39 b6A23 HT_ HW_ hHeld ?_
   refine zQ 10 44 b6A24 HT_ HW_ hHeld ?_
   refine zP 11 45 b6A25 HT_ ?_
   refine zP 12 46 b6A26 HT_ ?_
   refine zP 13 11 b6A27 HT_ ?_
   refine done_ (done_of HT_.out zG101) ?_
   try go_wp2
   obtain ⟨n0_, n1_, n2_⟩ := zD3 (zi BK154.out) (zi BK155.out) (zd HB.out)
   clear BK154 BK155 HB
   have BK154 := n0_
   have BK155 := n1_
   have HB := n2_
   clear n0_ n1_ n2_
   have p159 : 0 ≤ (x26_1 : Int) := zO
   have q159 : x26_1 < (l0.length : Int) := zO
   obtain ⟨ad159, e159, hx159_0, hx159_1, hx159_2⟩ := at_T139 HR0.out x26_1 p159 q159
   have hw159_2 := hx159_2
   have hw159_1 := hx159_1
   have hw159_0 := hx159_0
   obtain rfl : ad152 = ad159 := (by injection e159)
   replace hx159_0 := (HB.out.cell (za w _ hx159_0)).trans hx159_0
   replace hx159_1 := (HB.out.cell (za w _ hx159_1)).trans hx159_1
   replace hx159_2 := (HB.out.cell (za w _ hx159_2)).trans hx159_2
   replace p159 := eq_true p159
   replace q159 := eq_true q159
   refine start_ (n := 15) (S := fun w' => w'.cell? ⟨gb154, 0, none⟩ = some (.int .i64 ((rd_T139 l0 (l2.length : Int)).f0)) ∧ w'.cell? ⟨gb154, 1, none⟩ = some (.int .i64 ((rd_T139 l0 (l2.length : Int)).f1)) ∧ w'.cell? ⟨gb154, 2, none⟩ = some (.string ((rd_T139 l0 (l2.length : Int)).f2)) ∧ w'.cell? ⟨gb155, 0, none⟩ = some (.string ((rd_T72 l1 a3).f0)) ∧ w'.cell? ⟨gb155, 1, none⟩ = some (.int .i64 ((rd_T72 l1 a3).f1)) ∧ w'.cell? ⟨gb155, 2, none⟩ = some (.int .i64 ((rd_T72 l1 a3).f2)) ∧ w'.cell? ⟨gb155, 3, none⟩ = some (.int .i64 ((rd_T72 l1 a3).f3)) ∧ w'.cell? ⟨gb155, 4, none⟩ = some (.slice A153_4 ((rd_T72 l1 a3).f4).length c153_4) ∧ w'.cell? (ad152.add ((x26_1).toNat * 3)) = some (.int .i64 ((rd_T139 l0 x26_1).f0)) ∧ w'.cell? ⟨(ad152.add ((x26_1).toNat * 3)).block, (ad152.add ((x26_1).toNat * 3)).off + 1, none⟩ = some (.int .i64 ((rd_T139 l0 x26_1).f1)) ∧ w'.cell? ⟨(ad152.add ((x26_1).toNat * 3)).block, (ad152.add ((x26_1).toNat * 3)).off + 2, none⟩ = some (.string ((rd_T139 l0 x26_1).f2))) (ds := []) b6A1 zG101 rfl rfl ⟨(zk BK154.out 0).trans rfl, (zk BK154.out 1).trans rfl, (zk BK154.out 2).trans rfl, (zk BK155.out 0).trans rfl, (zk BK155.out 1).trans rfl, (zk BK155.out 2).trans rfl, (zk BK155.out 3).trans rfl, (zk BK155.out 4).trans rfl, ((HB.out.cell (za w _ hw159_0)).trans hw159_0), ((HB.out.cell (za w _ hw159_1)).trans hw159_1), ((HB.out.cell (za w _ hw159_2)).trans hw159_2)⟩ (fun hHeld => ?_); refine with_tabW impl_shiftCode.tab7 impl_shiftCode.bits7 (fun HT_ HW_ => ?_)
   generalize w29.drew = w30 at BK154 BK155 HB hx159_0 hx159_1 hx159_2 hHeld ⊢
   refine zP 0 47 b6A2 HT_ ?_
   refine zP 1 48 b6A3 HT_ ?_
   refine zP 2 49 b6A4 HT_ ?_
   refine zP 4 51 #[true, true, true, false, true, false, false, false, false, false, false, false, false, false, false] HT_ ?_
   refine zP 5 52 #[true, true, true, false, true, true, false, false, false, false, false, false, false, false, false] HT_ ?_
   refine zP 6 53 #[true, true, true, false, true, true, true, false, false, false, false, false, false, false, false] HT_ ?_
   refine zP 7 54 #[true, true, true, false, true, true, true, true, false, false, false, false, false, false, false] HT_ ?_
   refine zP 9 56 #[true, true, true, false, true, true, true, true, false, true, false, false, false, false, false] HT_ ?_
   refine zQ 3 50 #[true, true, true, true, true, true, true, true, false, true, false, false, false, false, false] HT_ HW_ hHeld ?_
   refine zQ 8 55 b6A5 HT_ HW_ hHeld ?_
   refine zQ 10 57 b6A0 HT_ HW_ hHeld ?_
   refine zP 11 58 b6A6 HT_ ?_
   refine zP 12 59 b6A7 HT_ ?_
   refine zP 13 60 b6A8 HT_ ?_
   refine zP 14 12 b6A9 HT_ ?_
   refine done_ (done_of HT_.out zG101) ?_
   try go_wp2
   go_roundg k1
   case measure => have := HK1.out; omega
   case rel => exact ⟨(wrap64 (x11_1 + (wrap64 (((rd_T139 l0 x26_1).f1) - ((rd_T139 l0 x26_1).f0))))), (decide (((rd_T139 l0 (l2.length : Int)).f0) < (wrap64 (((rd_T139 l0 x26_1).f1) + ((rd_T72 l1 a3).f2))))), (wrap64 (x26_1 + 1)), zG100, zG100, zG100, H', ⟨zH120⟩, ⟨zH92⟩, ⟨zH93⟩, ⟨zH40⟩⟩
end Go.Proofs.Ytojncbpeeboooaa.U
