-- squeezed
-- made by pp.py (wip/tools) out of the translation; Lean checks it
import Derived.Test.YtojncbpeeboooaaY0
import Derived.Test.YtojncbpeeboooaaY4
namespace Go.Proofs.Ytojncbpeeboooaa.Y
open Go.RowKit Go.Proofs.YtojncbpeeboooaaW.PrintWords Go.Proofs.YtojncbpeeboooaaW.PrintLast Go.Proofs.YtojncbpeeboooaaW.PrintMore
attribute [local go_sem] max2_int min2_int max_two min_two max_three min_three max_four min_four   -- for this text's walks alone
set_option linter.unusedVariables false
set_option linter.unusedSimpArgs false

abbrev b7A0 := zM 15 2047
abbrev b7A1 := zM 15 0
abbrev b7A2 := zM 15 1
abbrev b7A3 := zM 15 3
abbrev b7A4 := zM 15 7
abbrev b7A5 := zM 15 1023
abbrev b7A6 := zM 15 4095
abbrev b7A7 := zM 15 8191
abbrev b7A8 := zM 15 16383
abbrev b7A9 := zM 15 32767
abbrev b7A10 := zM 15 15
abbrev b7A11 := zM 15 255
abbrev b7A12 := zM 15 511
abbrev b7A13 := zM 14 0
abbrev b7A14 := zM 14 1
abbrev b7A15 := zM 14 3
abbrev b7A16 := zM 14 7
abbrev b7A17 := zM 14 15
abbrev b7A18 := zM 14 31
abbrev b7A19 := zM 14 95
abbrev b7A20 := zM 14 223
abbrev b7A21 := zM 14 479
abbrev b7A22 := zM 14 991
abbrev b7A23 := zM 14 1023
abbrev b7A24 := zM 14 2047
abbrev b7A25 := zM 14 4095
abbrev b7A26 := zM 14 8191
abbrev b7A27 := zM 14 16383
/-! ### impl_shiftCode: function 98 -/
def impl_shiftCode.l0 : Nat → List (S139) → Int → Int → Bool → List Int → Int → Int → Int → Int → ByteArray → ByteArray → Int → Int → Int → List ByteArray → Option (Int)
 | 0, _, _, _, _, _, _, _, _, _, _, _, _, _, _, _ => none
 | k + 1, x0, x3, x11, x12, x24, x25, x26, x258000, x258001, x258002, x259000, x259001, x259002, x259003, x259004 => if x26 < x25 then (if 0 ≤ x26 then (if x26 < (x24.length : Int) then (if (rd x24 x26) = x3 then (if x26 < (x0.length : Int) then (if x12 = true then (impl_shiftCode.l0 k x0 x3 (wrap64 (x11 + (wrap64 (((rd_T139 x0 x26).f1) - ((rd_T139 x0 x26).f0))))) true x24 x25 (wrap64 (x26 + 1)) x258000 x258001 x258002 x259000 x259001 x259002 x259003 x259004) else (impl_shiftCode.l0 k x0 x3 (wrap64 (x11 + (wrap64 (((rd_T139 x0 x26).f1) - ((rd_T139 x0 x26).f0))))) (decide (x258000 < (wrap64 (((rd_T139 x0 x26).f1) + x259002)))) x24 x25 (wrap64 (x26 + 1)) x258000 x258001 x258002 x259000 x259001 x259002 x259003 x259004)) else (none)) else (impl_shiftCode.l0 k x0 x3 x11 x12 x24 x25 (wrap64 (x26 + 1)) x258000 x258001 x258002 x259000 x259001 x259002 x259003 x259004)) else (none)) else (none)) else ((slices_Contains_string_string.f k x259004 x258002).bind fun t263 => (if t263 = true then (if x12 = true then (some 12) else (if (wrap64 ((wrap64 (x11 + x258001)) - x258000)) > x259001 then (some 11) else (some 0))) else (some 13)))
def impl_shiftCode.f (k : Nat) (l0 : List (S139)) (l1 : List (S72)) (l2 : List Int) (a3 : Int) : Option (Int) := if 0 ≤ (l2.length : Int) then (if (l2.length : Int) < (l0.length : Int) then (if 0 ≤ a3 then (if a3 < (l1.length : Int) then (impl_shiftCode.l0 k l0 a3 0 false l2 (l2.length : Int) 0 ((rd_T139 l0 (l2.length : Int)).f0) ((rd_T139 l0 (l2.length : Int)).f1) ((rd_T139 l0 (l2.length : Int)).f2) ((rd_T72 l1 a3).f0) ((rd_T72 l1 a3).f1) ((rd_T72 l1 a3).f2) ((rd_T72 l1 a3).f3) ((rd_T72 l1 a3).f4)) else (none)) else (none)) else (none)) else (none)
theorem impl_shiftCode.mono_l : ∀ k, (∀ y0 y1 y2 y3 y4 y5 y6 y7 y8 y9 y10 y11 y12 y13 y14, LeO (impl_shiftCode.l0 k y0 y1 y2 y3 y4 y5 y6 y7 y8 y9 y10 y11 y12 y13 y14) (impl_shiftCode.l0 (k + 1) y0 y1 y2 y3 y4 y5 y6 y7 y8 y9 y10 y11 y12 y13 y14))
 | 0 => fun _ _ _ _ _ _ _ _ _ _ _ _ _ _ _ r h => by simp [impl_shiftCode.l0] at h
 | k + 1 => by
  have ih0 := impl_shiftCode.mono_l k
  ·intro y0 y1 y2 y3 y4 y5 y6 y7 y8 y9 y10 y11 y12 y13 y14
   unfold impl_shiftCode.l0
   repeat' first
   | (with_reducible exact ih0 _ _ _ _ _ _ _ _ _ _ _ _ _ _ _)
   | (with_reducible exact slices_Contains_string_string.mono _ _ _)
   | (with_reducible exact LeO.refl _)
   | (with_reducible exact LeO.none _)
   | (with_reducible refine LeO.ite ?_ ?_)
   | (with_reducible refine LeO.bind ?_ (fun _ => ?_))
   | exact ih0 _ _ _ _ _ _ _ _ _ _ _ _ _ _ _
   | exact slices_Contains_string_string.mono _ _ _
   | exact LeO.none _
   | refine LeO.ite ?_ ?_
   | refine LeO.bind ?_ (fun _ => ?_)
theorem impl_shiftCode.mono : ∀ a0 a1 a2 a3 k, LeO (impl_shiftCode.f k a0 a1 a2 a3) (impl_shiftCode.f (k + 1) a0 a1 a2 a3) := by
 intro a0 a1 a2 a3 k
 have ih0 := impl_shiftCode.mono_l k
 unfold impl_shiftCode.f
 repeat' first
   | (with_reducible exact ih0 _ _ _ _ _ _ _ _ _ _ _ _ _ _ _)
   | (with_reducible exact slices_Contains_string_string.mono _ _ _)
   | (with_reducible exact LeO.refl _)
   | (with_reducible exact LeO.none _)
   | (with_reducible refine LeO.ite ?_ ?_)
   | (with_reducible refine LeO.bind ?_ (fun _ => ?_))
   | exact ih0 _ _ _ _ _ _ _ _ _ _ _ _ _ _ _
   | exact slices_Contains_string_string.mono _ _ _
   | exact LeO.none _
   | refine LeO.ite ?_ ?_
   | refine LeO.bind ?_ (fun _ => ?_)
def impl_shiftCode.T1 : Bool × List (List Nat × List Nat) := (true, [([], []), ([], []), ([1], [1]), ([0, 2], [0, 2]), ([3], [3]), ([], []), ([], []), ([5, 6], [5, 6]), ([7], [7]), ([], []), ([], []), ([9, 4, 0, 1, 2, 3, 4, 9, 10], [4, 9]), ([10, 8, 11, 0, 1, 2, 3, 4, 5, 6, 7, 8, 9, 10, 11], [8, 10]), ([12, 0, 1, 2, 3, 4, 5, 6, 7, 8, 9, 10, 11, 12], []), ([13, 0, 1, 2, 3, 4, 5, 6, 7, 8, 9, 10, 11, 12, 13], [])])
def impl_shiftCode.B1 : List Nat := [0, 0, 2, 7, 15, 0, 0, 96, 224, 0, 0, 1567, 4095, 8191, 16383]
theorem impl_shiftCode.tab1 : rtab .any (opsOf Try.f98 1) = impl_shiftCode.T1 := by kernel_rfl
theorem impl_shiftCode.bits1 : waitsOk impl_shiftCode.T1.2 impl_shiftCode.B1 = true := by kernel_rfl
def impl_shiftCode.T6 : Bool × List (List Nat × List Nat) := (true, [([], []), ([], []), ([], []), ([1, 2], [1, 2]), ([3], [3]), ([4], [4]), ([], []), ([], []), ([6, 7], [6, 7]), ([8], [8]), ([9], [9]), ([5, 10], [5, 10]), ([0, 11], [0, 11]), ([12, 0, 1, 2, 3, 4, 5, 6, 7, 8, 9, 10, 11, 12], [0, 12])])
def impl_shiftCode.B6 : List Nat := [0, 0, 0, 6, 14, 30, 0, 0, 192, 448, 960, 2046, 4095, 8191]
theorem impl_shiftCode.tab6 : rtab .any (opsOf Try.f98 6) = impl_shiftCode.T6 := by kernel_rfl
theorem impl_shiftCode.bits6 : waitsOk impl_shiftCode.T6.2 impl_shiftCode.B6 = true := by kernel_rfl
def impl_shiftCode.T7 : Bool × List (List Nat × List Nat) := (true, [([], []), ([0], [0]), ([1], [1]), ([2, 1], [1, 2]), ([1], [1]), ([1], [1]), ([4, 5, 1], [1, 4, 5]), ([6, 1], [1, 6]), ([7, 1], [1, 7]), ([1], [1]), ([9, 1], [1, 9]), ([8, 10, 1], [1, 8, 10]), ([3, 11, 1], [1, 3, 11]), ([1, 12], [1, 12]), ([13, 1, 0, 1, 2, 3, 4, 5, 6, 7, 8, 9, 10, 11, 12, 13], [0, 13])])
def impl_shiftCode.B7 : List Nat := [0, 1, 3, 7, 3, 3, 51, 115, 243, 3, 515, 2035, 4095, 8191, 16383]
theorem impl_shiftCode.tab7 : rtab .any (opsOf Try.f98 7) = impl_shiftCode.T7 := by kernel_rfl
theorem impl_shiftCode.bits7 : waitsOk impl_shiftCode.T7.2 impl_shiftCode.B7 = true := by kernel_rfl
set_option maxHeartbeats 64000000 in
set_option maxRecDepth 100000 in
theorem impl_shiftCode.calls (k : Nat) (A0 : Option Addr) (c0 : Nat) (l0 : List (S139)) (A1 : Option Addr) (c1 : Nat) (l1 : List (S72)) (A2 : Option Addr) (c2 : Nat) (l2 : List Int) (a3 : Int) (r : Int) (w : World) (hr0 : Kd.C k139 w A0 l0.length l0) (hc0 : l0.length ≤ c0) (hr1 : Kd.C k72 w A1 l1.length l1) (hc1 : l1.length ≤ c1) (hr2 : Kd.C (Kd.int .i64) w A2 l2.length l2) (hc2 : l2.length ≤ c2) (h : impl_shiftCode.f k l0 l1 l2 a3 = some r) :
  Calls Try.prog 98 #[.slice A0 l0.length c0, .slice A1 l1.length c1, .slice A2 l2.length c2, .int .i64 a3] w fun e w' => e = .returned (.int .i64 r) ∧ Below w.heap.size w w' := by
 have hu139 := Try.underlying139
 have hu72 := Try.underlying72
 obtain ⟨HR0, HC0, HR1, HC1, HR2, HC2, HB⟩ := zD7 hr0 hc0 hr1 hc1 hr2 hc2 (Below.refl w.heap.size w)
 clear hr0 hc0 hr1 hc1 hr2 hc2
 have H : (if 0 ≤ (l2.length : Int) then (if (l2.length : Int) < (l0.length : Int) then (if 0 ≤ a3 then (if a3 < (l1.length : Int) then (impl_shiftCode.l0 k l0 a3 0 false l2 (l2.length : Int) 0 ((rd_T139 l0 (l2.length : Int)).f0) ((rd_T139 l0 (l2.length : Int)).f1) ((rd_T139 l0 (l2.length : Int)).f2) ((rd_T72 l1 a3).f0) ((rd_T72 l1 a3).f1) ((rd_T72 l1 a3).f2) ((rd_T72 l1 a3).f3) ((rd_T72 l1 a3).f4)) else (none)) else (none)) else (none)) else (none)) = some r := h
 clear h
 by_cases c5 : 0 ≤ (l2.length : Int)
 rotate_left
 ·rw [if_neg c5] at H
  exact absurd H (by simp)

 rw [if_pos c5] at H
 have c5b0 := decide_eq_true c5
 have c5b1 : decide (0 ≤ l2.length) = true := decide_eq_true (by omega)
 clear c5
 by_cases c6 : (l2.length : Int) < (l0.length : Int)
 rotate_left
 ·rw [if_neg c6] at H
  exact absurd H (by simp)
 rw [if_pos c6] at H
 have c6b0 := decide_eq_true c6
 have c6b1 : decide (l2.length < l0.length) = true := decide_eq_true (Int.ofNat_lt.mp c6)
 clear c6
 by_cases c7 : 0 ≤ a3
 rotate_left
 ·rw [if_neg c7] at H
  exact absurd H (by simp)
 rw [if_pos c7] at H
 have c7b0 := decide_eq_true c7
 clear c7
 by_cases c8 : a3 < (l1.length : Int)
 rotate_left
 ·rw [if_neg c8] at H
  exact absurd H (by simp)
 rw [if_pos c8] at H
 have c8b0 := decide_eq_true c8
 clear c8
 have H' := za H
 clear H
 go_enter Try.func98, Try.ntmps98
 try go_wp2
 have n0_ := za (zh HB.out)
 clear HB
 have HB := n0_
 clear n0_
 have p255 : 0 ≤ ((l2.length : Int) : Int) := zO
 have q255 : (l2.length : Int) < (l0.length : Int) := zO
 obtain ⟨ad255, e255, hx255_0, hx255_1, hx255_2⟩ := at_T139 HR0.out (l2.length : Int) p255 q255
 have hw255_2 := hx255_2
 (try simp only [Go.IntWalk.toNatUp] at hw255_2)
 have hw255_1 := hx255_1
 (try simp only [Go.IntWalk.toNatUp] at hw255_1)
 have hw255_0 := hx255_0
 (try simp only [Go.IntWalk.toNatUp] at hw255_0)
 cases e255
 replace hx255_0 := (HB.out.cell (zb w _ hx255_0)).trans hx255_0
 replace hx255_1 := (HB.out.cell (zb w _ hx255_1)).trans hx255_1
 replace hx255_2 := (HB.out.cell (zb w _ hx255_2)).trans hx255_2
 (try simp only [Go.IntWalk.toNatUp] at hx255_0)
 (try simp only [Go.IntWalk.toNatUp] at hx255_1)
 (try simp only [Go.IntWalk.toNatUp] at hx255_2)
 replace p255 := eq_true p255
 replace q255 := eq_true q255
 have p256 : 0 ≤ (a3 : Int) := zO
 have q256 : a3 < (l1.length : Int) := zO
 obtain ⟨ad256, A256_4, c256_4, e256, hx256_0, hx256_1, hx256_2, hx256_3, hx256_4, hl256_4, hi256_4⟩ := at_T72 HR1.out a3 p256 q256
 have hw256_4 := hx256_4
 have hw256_3 := hx256_3
 have hw256_2 := hx256_2
 have hw256_1 := hx256_1
 have hw256_0 := hx256_0
 cases e256
 replace hx256_0 := (HB.out.cell (zb w _ hx256_0)).trans hx256_0
 replace hx256_1 := (HB.out.cell (zb w _ hx256_1)).trans hx256_1
 replace hx256_2 := (HB.out.cell (zb w _ hx256_2)).trans hx256_2
 replace hx256_3 := (HB.out.cell (zb w _ hx256_3)).trans hx256_3
 replace hx256_4 := (HB.out.cell (zb w _ hx256_4)).trans hx256_4
 obtain ⟨HR256_4, HC256_4⟩ := zD2 hi256_4 hl256_4
 clear hi256_4 hl256_4
 replace p256 := eq_true p256
 replace q256 := eq_true q256
 refine start_ (n := 15) (S := fun w' => w'.cell? (ad255.add (l2.length * 3)) = some (.int .i64 ((rd_T139 l0 (l2.length : Int)).f0)) ∧ w'.cell? ⟨(ad255.add (l2.length * 3)).block, (ad255.add (l2.length * 3)).off + 1, none⟩ = some (.int .i64 ((rd_T139 l0 (l2.length : Int)).f1)) ∧ w'.cell? ⟨(ad255.add (l2.length * 3)).block, (ad255.add (l2.length * 3)).off + 2, none⟩ = some (.string ((rd_T139 l0 (l2.length : Int)).f2)) ∧ w'.cell? (ad256.add ((a3).toNat * 5)) = some (.string ((rd_T72 l1 a3).f0)) ∧ w'.cell? ⟨(ad256.add ((a3).toNat * 5)).block, (ad256.add ((a3).toNat * 5)).off + 1, none⟩ = some (.int .i64 ((rd_T72 l1 a3).f1)) ∧ w'.cell? ⟨(ad256.add ((a3).toNat * 5)).block, (ad256.add ((a3).toNat * 5)).off + 2, none⟩ = some (.int .i64 ((rd_T72 l1 a3).f2)) ∧ w'.cell? ⟨(ad256.add ((a3).toNat * 5)).block, (ad256.add ((a3).toNat * 5)).off + 3, none⟩ = some (.int .i64 ((rd_T72 l1 a3).f3)) ∧ w'.cell? ⟨(ad256.add ((a3).toNat * 5)).block, (ad256.add ((a3).toNat * 5)).off + 4, none⟩ = some (.slice A256_4 ((rd_T72 l1 a3).f4).length c256_4)) (ds := []) b7A1 zG130 rfl rfl ⟨((HB.out.cell (zb w _ hw255_0)).trans hw255_0), ((HB.out.cell (zb w _ hw255_1)).trans hw255_1), ((HB.out.cell (zb w _ hw255_2)).trans hw255_2), ((HB.out.cell (zb w _ hw256_0)).trans hw256_0), ((HB.out.cell (zb w _ hw256_1)).trans hw256_1), ((HB.out.cell (zb w _ hw256_2)).trans hw256_2), ((HB.out.cell (zb w _ hw256_3)).trans hw256_3), ((HB.out.cell (zb w _ hw256_4)).trans hw256_4)⟩ (fun hHeld => ?_); refine with_tabW impl_shiftCode.tab1 impl_shiftCode.bits1 (fun HT_ HW_ => ?_)
 generalize w.drew = w9 at HB HR256_4 hx255_0 hx255_1 hx255_2 hx256_0 hx256_1 hx256_2 hx256_3 hx256_4 hHeld ⊢
 refine zP 0 15 b7A2 HT_ ?_
 refine zP 1 16 b7A3 HT_ ?_
 refine zP 2 17 b7A4 HT_ ?_
 refine zP 3 18 b7A10 HT_ ?_
 refine zP 5 20 #[true, true, true, true, false, true, false, false, false, false, false, false, false, false, false] HT_ ?_
 refine zP 6 21 #[true, true, true, true, false, true, true, false, false, false, false, false, false, false, false] HT_ ?_
 refine zP 7 22 #[true, true, true, true, false, true, true, true, false, false, false, false, false, false, false] HT_ ?_
 refine zQ 4 19 b7A11 HT_ HW_ hHeld ?_
 refine zQ 8 23 b7A12 HT_ HW_ hHeld ?_
 refine join_ (σ := Nat × Nat) 4 b7A0 (fun s_ => [(9, .pointer (some ⟨s_.1, 0, none⟩)), (10, .pointer (some ⟨s_.2, 0, none⟩))]) (fun s_ w' => (w'.cell? (ad255.add (l2.length * 3)) = some (.int .i64 ((rd_T139 l0 (l2.length : Int)).f0)) ∧ w'.cell? ⟨(ad255.add (l2.length * 3)).block, (ad255.add (l2.length * 3)).off + 1, none⟩ = some (.int .i64 ((rd_T139 l0 (l2.length : Int)).f1)) ∧ w'.cell? ⟨(ad255.add (l2.length * 3)).block, (ad255.add (l2.length * 3)).off + 2, none⟩ = some (.string ((rd_T139 l0 (l2.length : Int)).f2)) ∧ w'.cell? (ad256.add ((a3).toNat * 5)) = some (.string ((rd_T72 l1 a3).f0)) ∧ w'.cell? ⟨(ad256.add ((a3).toNat * 5)).block, (ad256.add ((a3).toNat * 5)).off + 1, none⟩ = some (.int .i64 ((rd_T72 l1 a3).f1)) ∧ w'.cell? ⟨(ad256.add ((a3).toNat * 5)).block, (ad256.add ((a3).toNat * 5)).off + 2, none⟩ = some (.int .i64 ((rd_T72 l1 a3).f2)) ∧ w'.cell? ⟨(ad256.add ((a3).toNat * 5)).block, (ad256.add ((a3).toNat * 5)).off + 3, none⟩ = some (.int .i64 ((rd_T72 l1 a3).f3)) ∧ w'.cell? ⟨(ad256.add ((a3).toNat * 5)).block, (ad256.add ((a3).toNat * 5)).off + 4, none⟩ = some (.slice A256_4 ((rd_T72 l1 a3).f4).length c256_4)) ∧ (w'.heap[s_.1]? = some (.cells #[.int .i64 0, .int .i64 0, .string (⟨#[]⟩ : ByteArray)] 139 (0, 0))) ∧ (w'.heap[s_.2]? = some (.cells #[.string (⟨#[]⟩ : ByteArray), .int .i64 0, .int .i64 0, .int .i64 0, .slice none 0 0] 72 (0, 0))) ∧ (w.heap.size ≤ s_.1) ∧ (w.heap.size ≤ s_.1) ∧ (s_.2 ≠ s_.1) ∧ (s_.1 ≠ s_.2) ∧ (w.heap.size ≤ s_.2) ∧ (w.heap.size ≤ s_.2) ∧ (Below w.heap.size w w')) ?_ ?_
 rotate_left
 ·intro hCont
  refine two_ (i := 9) (j := 10) (Ni := some 9) (Nj := some 10) b7A5 #[true, true, true, true, true, true, true, true, true, false, true, false, false, false, false] rfl rfl rfl rfl (two_of HT_.out zG130) zG131 zG131 (fun K hK => ?_) (fun K hK => ?_)
  ·skip
   refine box_step ?hg (N := 9) ?hd (cs := #[.int .i64 0, .int .i64 0, .string (⟨#[]⟩ : ByteArray)]) (t := 139) ?hr ?_; (case hd => rfl); (case hg => rfl); (case hr => exact zH125)
   intro gb257 hg w10 hbox hb
   obtain ⟨n0_, n1_, n2_, n3_⟩ := zD4 (zr zG102 hb) (hbox) ((by rw [hg]; exact (zo zG102) : w.heap.size ≤ gb257)) ((by rw [hg]; exact (zo zG102) : w.heap.size ≤ gb257))
   clear HB
   have HB := n0_
   have BK257 := n1_
   have GW257 := n2_
   have GE257 := n3_
   clear n0_ n1_ n2_ n3_
   clear hb hbox hg
   refine hK.out _ _ ⟨((HB.out.cell (zb w _ hw255_0)).trans hw255_0), ((HB.out.cell (zb w _ hw255_1)).trans hw255_1), ((HB.out.cell (zb w _ hw255_2)).trans hw255_2), ((HB.out.cell (zb w _ hw256_0)).trans hw256_0), ((HB.out.cell (zb w _ hw256_1)).trans hw256_1), ((HB.out.cell (zb w _ hw256_2)).trans hw256_2), ((HB.out.cell (zb w _ hw256_3)).trans hw256_3), ((HB.out.cell (zb w _ hw256_4)).trans hw256_4)⟩ (fun hHeld => ?_)
   clear hK K
   refine norm_ (a' := ?_) ?_ ?_
   rotate_left
   ·show Act.put _ (some 9) _ = _
    simp only [Act.put, List.setIfInBounds_toArray, List.set_cons_zero, List.set_cons_succ, i64_w, i32_w]
    rfl
   refine one_ (i := 10) (N := some 10) b7A0 rfl rfl (one_of HT_.out zG130) zG131 (fun K hK => ?_)
   refine box_step ?hg (N := 10) ?hd (cs := #[.string (⟨#[]⟩ : ByteArray), .int .i64 0, .int .i64 0, .int .i64 0, .slice none 0 0]) (t := 72) ?hr ?_; (case hd => rfl); (case hg => rfl); (case hr => exact zH125)
   intro gb258 hg w11 hbox hb
   obtain ⟨n0_, n1_, n2_, n3_, n4_, n5_, n6_⟩ := zD7 (zp (g := gb257) (o := .cells #[.int .i64 0, .int .i64 0, .string (⟨#[]⟩ : ByteArray)] 139 (0, 0)) zK236 hb) (zr zK216 hb) (hbox) ((by rw [hg]; exact (zo zK216) : w.heap.size ≤ gb258)) ((by rw [hg]; exact (zo zK216) : w.heap.size ≤ gb258)) ((by rw [hg]; exact Nat.ne_of_lt (zae (g := gb257) (o := .cells #[.int .i64 0, .int .i64 0, .string (⟨#[]⟩ : ByteArray)] 139 (0, 0)) zK236) : gb257 ≠ gb258)) ((by rw [hg]; exact Nat.ne_of_gt (zae (g := gb257) (o := .cells #[.int .i64 0, .int .i64 0, .string (⟨#[]⟩ : ByteArray)] 139 (0, 0)) zK236) : gb258 ≠ gb257))
   clear BK257 HB
   have BK257 := n0_
   have HB := n1_
   have BK258 := n2_
   have GW258 := n3_
   have GE258 := n4_
   have NB257_258 := n5_
   have NB258_257 := n6_
   clear n0_ n1_ n2_ n3_ n4_ n5_ n6_
   clear hb hbox hg
   refine hK.out _ _ ⟨((HB.out.cell (zb w _ hw255_0)).trans hw255_0), ((HB.out.cell (zb w _ hw255_1)).trans hw255_1), ((HB.out.cell (zb w _ hw255_2)).trans hw255_2), ((HB.out.cell (zb w _ hw256_0)).trans hw256_0), ((HB.out.cell (zb w _ hw256_1)).trans hw256_1), ((HB.out.cell (zb w _ hw256_2)).trans hw256_2), ((HB.out.cell (zb w _ hw256_3)).trans hw256_3), ((HB.out.cell (zb w _ hw256_4)).trans hw256_4)⟩ (fun hHeld => ?_)
   clear hK K
   refine norm_ (a' := ?_) ?_ ?_
   rotate_left
   ·show Act.put _ (some 10) _ = _
    simp only [Act.put, List.setIfInBounds_toArray, List.set_cons_zero, List.set_cons_succ, i64_w, i32_w]
    rfl
   exact norm_ zK241 (hCont (gb257, gb258) _ ⟨hHeld, zK236, zK237, GW257.out, GE257.out, NB258_257.out, NB257_258.out, GW258.out, GE258.out, (by repeat (first | (with_reducible first | exact HB.out | apply zi | apply zc | apply zh | refine zf ?_ GE257.out | refine zf ?_ GE258.out) | exact HB.out))⟩)
  ·skip
   refine box_step ?hg (N := 10) ?hd (cs := #[.string (⟨#[]⟩ : ByteArray), .int .i64 0, .int .i64 0, .int .i64 0, .slice none 0 0]) (t := 72) ?hr ?_; (case hd => rfl); (case hg => rfl); (case hr => exact zH125)
   intro gb258 hg w10 hbox hb
   obtain ⟨n0_, n1_, n2_, n3_⟩ := zD4 (zr zG102 hb) (hbox) ((by rw [hg]; exact (zo zG102) : w.heap.size ≤ gb258)) ((by rw [hg]; exact (zo zG102) : w.heap.size ≤ gb258))
   clear HB
   have HB := n0_
   have BK258 := n1_
   have GW258 := n2_
   have GE258 := n3_
   clear n0_ n1_ n2_ n3_
   clear hb hbox hg
   refine hK.out _ _ ⟨((HB.out.cell (zb w _ hw255_0)).trans hw255_0), ((HB.out.cell (zb w _ hw255_1)).trans hw255_1), ((HB.out.cell (zb w _ hw255_2)).trans hw255_2), ((HB.out.cell (zb w _ hw256_0)).trans hw256_0), ((HB.out.cell (zb w _ hw256_1)).trans hw256_1), ((HB.out.cell (zb w _ hw256_2)).trans hw256_2), ((HB.out.cell (zb w _ hw256_3)).trans hw256_3), ((HB.out.cell (zb w _ hw256_4)).trans hw256_4)⟩ (fun hHeld => ?_)
   clear hK K
   refine norm_ (a' := ?_) ?_ ?_
   rotate_left
   ·show Act.put _ (some 10) _ = _
    simp only [Act.put, List.setIfInBounds_toArray, List.set_cons_zero, List.set_cons_succ, i64_w, i32_w]
    rfl
   refine one_ (i := 9) (N := some 9) b7A0 rfl rfl (one_of HT_.out zG130) zG131 (fun K hK => ?_)
   refine box_step ?hg (N := 9) ?hd (cs := #[.int .i64 0, .int .i64 0, .string (⟨#[]⟩ : ByteArray)]) (t := 139) ?hr ?_; (case hd => rfl); (case hg => rfl); (case hr => exact zH125)
   intro gb257 hg w11 hbox hb
   obtain ⟨n0_, n1_, n2_, n3_, n4_, n5_, n6_⟩ := zD7 (zp (g := gb258) (o := .cells #[.string (⟨#[]⟩ : ByteArray), .int .i64 0, .int .i64 0, .int .i64 0, .slice none 0 0] 72 (0, 0)) zK237 hb) (zr zK217 hb) (hbox) ((by rw [hg]; exact (zo zK217) : w.heap.size ≤ gb257)) ((by rw [hg]; exact (zo zK217) : w.heap.size ≤ gb257)) ((by rw [hg]; exact Nat.ne_of_lt (zae (g := gb258) (o := .cells #[.string (⟨#[]⟩ : ByteArray), .int .i64 0, .int .i64 0, .int .i64 0, .slice none 0 0] 72 (0, 0)) zK237) : gb258 ≠ gb257)) ((by rw [hg]; exact Nat.ne_of_gt (zae (g := gb258) (o := .cells #[.string (⟨#[]⟩ : ByteArray), .int .i64 0, .int .i64 0, .int .i64 0, .slice none 0 0] 72 (0, 0)) zK237) : gb257 ≠ gb258))
   clear BK258 HB
   have BK258 := n0_
   have HB := n1_
   have BK257 := n2_
   have GW257 := n3_
   have GE257 := n4_
   have NB258_257 := n5_
   have NB257_258 := n6_
   clear n0_ n1_ n2_ n3_ n4_ n5_ n6_
   clear hb hbox hg
   refine hK.out _ _ ⟨((HB.out.cell (zb w _ hw255_0)).trans hw255_0), ((HB.out.cell (zb w _ hw255_1)).trans hw255_1), ((HB.out.cell (zb w _ hw255_2)).trans hw255_2), ((HB.out.cell (zb w _ hw256_0)).trans hw256_0), ((HB.out.cell (zb w _ hw256_1)).trans hw256_1), ((HB.out.cell (zb w _ hw256_2)).trans hw256_2), ((HB.out.cell (zb w _ hw256_3)).trans hw256_3), ((HB.out.cell (zb w _ hw256_4)).trans hw256_4)⟩ (fun hHeld => ?_)
   clear hK K
   refine norm_ (a' := ?_) ?_ ?_
   rotate_left
   ·show Act.put _ (some 9) _ = _
    simp only [Act.put, List.setIfInBounds_toArray, List.set_cons_zero, List.set_cons_succ, i64_w, i32_w]
    rfl
   exact norm_ zK241 (hCont (gb257, gb258) _ ⟨hHeld, zK236, zK237, GW257.out, GE257.out, NB258_257.out, NB257_258.out, GW258.out, GE258.out, (by repeat (first | (with_reducible first | exact HB.out | apply zi | apply zc | apply zh | refine zf ?_ GE258.out | refine zf ?_ GE257.out) | exact HB.out))⟩)
 rintro ⟨gb257, gb258⟩ w12 ⟨hS_, h0_, h1_, h2_, h3_, h4_, h5_, h6_, h7_, h8_⟩
 have n0_ : Aside0 (w12.heap[gb257]? = some (.cells #[.int .i64 0, .int .i64 0, .string (⟨#[]⟩ : ByteArray)] 139 (0, 0))) := ⟨h0_⟩
 have n1_ : Aside0 (w12.heap[gb258]? = some (.cells #[.string (⟨#[]⟩ : ByteArray), .int .i64 0, .int .i64 0, .int .i64 0, .slice none 0 0] 72 (0, 0))) := ⟨h1_⟩
 have n2_ : Aside0 (w.heap.size ≤ gb257) := ⟨h2_⟩
 have n3_ : Aside0 (w.heap.size ≤ gb257) := ⟨h3_⟩
 have n4_ : Aside0 (gb258 ≠ gb257) := ⟨h4_⟩
 have n5_ : Aside0 (gb257 ≠ gb258) := ⟨h5_⟩
 have n6_ : Aside0 (w.heap.size ≤ gb258) := ⟨h6_⟩
 have n7_ : Aside0 (w.heap.size ≤ gb258) := ⟨h7_⟩
 have n8_ : Aside0 (Below w.heap.size w w12) := ⟨h8_⟩
 clear HB
 clear h0_ h1_ h2_ h3_ h4_ h5_ h6_ h7_ h8_
 have BK257 := n0_
 have BK258 := n1_
 have GW257 := n2_
 have GE257 := n3_
 have NB258_257 := n4_
 have NB257_258 := n5_
 have GW258 := n6_
 have GE258 := n7_
 have HB := n8_
 clear n0_ n1_ n2_ n3_ n4_ n5_ n6_ n7_ n8_
 have hHeld : w12.cell? (ad255.add (l2.length * 3)) = some (.int .i64 ((rd_T139 l0 (l2.length : Int)).f0)) ∧ w12.cell? ⟨(ad255.add (l2.length * 3)).block, (ad255.add (l2.length * 3)).off + 1, none⟩ = some (.int .i64 ((rd_T139 l0 (l2.length : Int)).f1)) ∧ w12.cell? ⟨(ad255.add (l2.length * 3)).block, (ad255.add (l2.length * 3)).off + 2, none⟩ = some (.string ((rd_T139 l0 (l2.length : Int)).f2)) ∧ w12.cell? (ad256.add ((a3).toNat * 5)) = some (.string ((rd_T72 l1 a3).f0)) ∧ w12.cell? ⟨(ad256.add ((a3).toNat * 5)).block, (ad256.add ((a3).toNat * 5)).off + 1, none⟩ = some (.int .i64 ((rd_T72 l1 a3).f1)) ∧ w12.cell? ⟨(ad256.add ((a3).toNat * 5)).block, (ad256.add ((a3).toNat * 5)).off + 2, none⟩ = some (.int .i64 ((rd_T72 l1 a3).f2)) ∧ w12.cell? ⟨(ad256.add ((a3).toNat * 5)).block, (ad256.add ((a3).toNat * 5)).off + 3, none⟩ = some (.int .i64 ((rd_T72 l1 a3).f3)) ∧ w12.cell? ⟨(ad256.add ((a3).toNat * 5)).block, (ad256.add ((a3).toNat * 5)).off + 4, none⟩ = some (.slice A256_4 ((rd_T72 l1 a3).f4).length c256_4) := hS_
 refine norm_ (a' := ?_) ?_ ?_
 rotate_left
 ·simp only [putAll, Act.put, List.setIfInBounds_toArray, List.set_cons_zero, List.set_cons_succ]
  rfl
 refine one_ (i := 11) (N := none) b7A6 rfl rfl (one_of HT_.out zG130) zG131 (fun K hK => ?_)
 have hs13 : w12.cell? ⟨gb257, 0, none⟩ = some (.int .i64 0) := (zk BK257.out 0).trans rfl
 have hfs13 := zj BK257.out 0
 have hns13_1 := NB258_257.out
 have hms13_1 := NB257_258.out
 have hs14 : w12.cell? ⟨gb257, 1, none⟩ = some (.int .i64 0) := (zk BK257.out 1).trans rfl
 have hfs14 := zj BK257.out 1
 have hns14_1 := NB258_257.out
 have hms14_1 := NB257_258.out
 have hs15 : w12.cell? ⟨gb257, 2, none⟩ = some (.string (⟨#[]⟩ : ByteArray)) := (zk BK257.out 2).trans rfl
 have hfs15 := zj BK257.out 2
 have hns15_1 := NB258_257.out
 have hms15_1 := NB257_258.out
 refine skip_ (w1 := ?_) (by rfl) rfl ?_ ?_
 rotate_left
 ·go_simp
  rfl
 refine hK.out _ _ ⟨((cell_far (p := ⟨gb257, _, none⟩) zK153 _).trans (((cell_far (p := ⟨gb257, _, none⟩) zK153 _).trans (((cell_far (p := ⟨gb257, _, none⟩) zK153 _).trans (hHeld.1)))))), ((cell_far (p := ⟨gb257, _, none⟩) zK154 _).trans (((cell_far (p := ⟨gb257, _, none⟩) zK154 _).trans (((cell_far (p := ⟨gb257, _, none⟩) zK154 _).trans (hHeld.2.1)))))), ((cell_far (p := ⟨gb257, _, none⟩) zK155 _).trans (((cell_far (p := ⟨gb257, _, none⟩) zK155 _).trans (((cell_far (p := ⟨gb257, _, none⟩) zK155 _).trans (hHeld.2.2.1)))))), ((cell_far (p := ⟨gb257, _, none⟩) zK156 _).trans (((cell_far (p := ⟨gb257, _, none⟩) zK156 _).trans (((cell_far (p := ⟨gb257, _, none⟩) zK156 _).trans (hHeld.2.2.2.1)))))), ((cell_far (p := ⟨gb257, _, none⟩) zK157 _).trans (((cell_far (p := ⟨gb257, _, none⟩) zK157 _).trans (((cell_far (p := ⟨gb257, _, none⟩) zK157 _).trans (hHeld.2.2.2.2.1)))))), ((cell_far (p := ⟨gb257, _, none⟩) zK158 _).trans (((cell_far (p := ⟨gb257, _, none⟩) zK158 _).trans (((cell_far (p := ⟨gb257, _, none⟩) zK158 _).trans (hHeld.2.2.2.2.2.1)))))), ((cell_far (p := ⟨gb257, _, none⟩) zK159 _).trans (((cell_far (p := ⟨gb257, _, none⟩) zK159 _).trans (((cell_far (p := ⟨gb257, _, none⟩) zK159 _).trans (hHeld.2.2.2.2.2.2.1)))))), ((cell_far (p := ⟨gb257, _, none⟩) zK160 _).trans (((cell_far (p := ⟨gb257, _, none⟩) zK160 _).trans (((cell_far (p := ⟨gb257, _, none⟩) zK160 _).trans (hHeld.2.2.2.2.2.2.2))))))⟩ (fun hHeld => ?_)
 clear hK K
 refine one_ (i := 12) (N := none) b7A7 rfl rfl (one_of HT_.out zG130) zG131 (fun K hK => ?_)
 have hs16 : w12.cell? ⟨gb258, 0, none⟩ = some (.string (⟨#[]⟩ : ByteArray)) := (zk BK258.out 0).trans rfl
 have hfs16 := zj BK258.out 0
 have hns16_0 := NB257_258.out
 have hms16_0 := NB258_257.out
 have hs17 : w12.cell? ⟨gb258, 1, none⟩ = some (.int .i64 0) := (zk BK258.out 1).trans rfl
 have hfs17 := zj BK258.out 1
 have hns17_0 := NB257_258.out
 have hms17_0 := NB258_257.out
 have hs18 : w12.cell? ⟨gb258, 2, none⟩ = some (.int .i64 0) := (zk BK258.out 2).trans rfl
 have hfs18 := zj BK258.out 2
 have hns18_0 := NB257_258.out
 have hms18_0 := NB258_257.out
 have hs19 : w12.cell? ⟨gb258, 3, none⟩ = some (.int .i64 0) := (zk BK258.out 3).trans rfl
 have hfs19 := zj BK258.out 3
 have hns19_0 := NB257_258.out
 have hms19_0 := NB258_257.out
 have hs20 : w12.cell? ⟨gb258, 4, none⟩ = some (.slice none 0 0) := (zk BK258.out 4).trans rfl
 have hfs20 := zj BK258.out 4
 have hns20_0 := NB257_258.out
 have hms20_0 := NB258_257.out
 refine skip_ (w1 := ?_) (by rfl) rfl ?_ ?_
 rotate_left
 ·go_simp
  rfl
 refine hK.out _ _ ⟨((cell_far (p := ⟨gb258, _, none⟩) zK161 _).trans (((cell_far (p := ⟨gb258, _, none⟩) zK161 _).trans (((cell_far (p := ⟨gb258, _, none⟩) zK161 _).trans (((cell_far (p := ⟨gb258, _, none⟩) zK161 _).trans (((cell_far (p := ⟨gb258, _, none⟩) zK161 _).trans (hHeld.1)))))))))), ((cell_far (p := ⟨gb258, _, none⟩) zK162 _).trans (((cell_far (p := ⟨gb258, _, none⟩) zK162 _).trans (((cell_far (p := ⟨gb258, _, none⟩) zK162 _).trans (((cell_far (p := ⟨gb258, _, none⟩) zK162 _).trans (((cell_far (p := ⟨gb258, _, none⟩) zK162 _).trans (hHeld.2.1)))))))))), ((cell_far (p := ⟨gb258, _, none⟩) zK163 _).trans (((cell_far (p := ⟨gb258, _, none⟩) zK163 _).trans (((cell_far (p := ⟨gb258, _, none⟩) zK163 _).trans (((cell_far (p := ⟨gb258, _, none⟩) zK163 _).trans (((cell_far (p := ⟨gb258, _, none⟩) zK163 _).trans (hHeld.2.2.1)))))))))), ((cell_far (p := ⟨gb258, _, none⟩) zK164 _).trans (((cell_far (p := ⟨gb258, _, none⟩) zK164 _).trans (((cell_far (p := ⟨gb258, _, none⟩) zK164 _).trans (((cell_far (p := ⟨gb258, _, none⟩) zK164 _).trans (((cell_far (p := ⟨gb258, _, none⟩) zK164 _).trans (hHeld.2.2.2.1)))))))))), ((cell_far (p := ⟨gb258, _, none⟩) zK165 _).trans (((cell_far (p := ⟨gb258, _, none⟩) zK165 _).trans (((cell_far (p := ⟨gb258, _, none⟩) zK165 _).trans (((cell_far (p := ⟨gb258, _, none⟩) zK165 _).trans (((cell_far (p := ⟨gb258, _, none⟩) zK165 _).trans (hHeld.2.2.2.2.1)))))))))), ((cell_far (p := ⟨gb258, _, none⟩) zK166 _).trans (((cell_far (p := ⟨gb258, _, none⟩) zK166 _).trans (((cell_far (p := ⟨gb258, _, none⟩) zK166 _).trans (((cell_far (p := ⟨gb258, _, none⟩) zK166 _).trans (((cell_far (p := ⟨gb258, _, none⟩) zK166 _).trans (hHeld.2.2.2.2.2.1)))))))))), ((cell_far (p := ⟨gb258, _, none⟩) zK167 _).trans (((cell_far (p := ⟨gb258, _, none⟩) zK167 _).trans (((cell_far (p := ⟨gb258, _, none⟩) zK167 _).trans (((cell_far (p := ⟨gb258, _, none⟩) zK167 _).trans (((cell_far (p := ⟨gb258, _, none⟩) zK167 _).trans (hHeld.2.2.2.2.2.2.1)))))))))), ((cell_far (p := ⟨gb258, _, none⟩) zK168 _).trans (((cell_far (p := ⟨gb258, _, none⟩) zK168 _).trans (((cell_far (p := ⟨gb258, _, none⟩) zK168 _).trans (((cell_far (p := ⟨gb258, _, none⟩) zK168 _).trans (((cell_far (p := ⟨gb258, _, none⟩) zK168 _).trans (hHeld.2.2.2.2.2.2.2))))))))))⟩ (fun hHeld => ?_)
 clear hK K
 refine zP 13 11 b7A8 HT_ ?_
 refine zP 14 12 b7A9 HT_ ?_
 refine done_ (done_of HT_.out zG130) ?_
 try go_wp2
 go_loopg [11, 12, 26] k (fun kq v11 v12 v26 w' => ∃ (x11_1 : Int) (x12_1 : Bool) (x26_1 : Int), v11 = .int .i64 x11_1 ∧ v12 = .bool x12_1 ∧ v26 = .int .i64 x26_1 ∧ Aside0 (impl_shiftCode.l0 kq l0 a3 x11_1 x12_1 l2 (l2.length : Int) x26_1 ((rd_T139 l0 (l2.length : Int)).f0) ((rd_T139 l0 (l2.length : Int)).f1) ((rd_T139 l0 (l2.length : Int)).f2) ((rd_T72 l1 a3).f0) ((rd_T72 l1 a3).f1) ((rd_T72 l1 a3).f2) ((rd_T72 l1 a3).f3) ((rd_T72 l1 a3).f4) = some r) ∧ Aside0 (kq ≤ k) ∧ Aside0 (w'.heap[gb257]? = some (.cells #[.int .i64 ((rd_T139 l0 (l2.length : Int)).f0), .int .i64 ((rd_T139 l0 (l2.length : Int)).f1), .string ((rd_T139 l0 (l2.length : Int)).f2)] 139 (0, 0))) ∧ Aside0 (w'.heap[gb258]? = some (.cells #[.string ((rd_T72 l1 a3).f0), .int .i64 ((rd_T72 l1 a3).f1), .int .i64 ((rd_T72 l1 a3).f2), .int .i64 ((rd_T72 l1 a3).f3), (.slice A256_4 ((rd_T72 l1 a3).f4).length c256_4)] 72 (0, 0))) ∧ Aside0 (Below w.heap.size w w'))
 case atStart => exact ⟨(0), (false), (0), zG129, zG129, zG129, H', ⟨Nat.le_refl _⟩, ⟨by (with_reducible repeat (first | refine zd ?_ _ | refine zg ?_ | refine ze ?_ _)); refine zz ?_ NB257_258.out _; (with_reducible repeat (first | refine zd ?_ _ | refine zg ?_ | refine ze ?_ _)); refine zz ?_ NB257_258.out _; (with_reducible repeat (first | refine zd ?_ _ | refine zg ?_ | refine ze ?_ _)); refine zz ?_ NB257_258.out _; (with_reducible repeat (first | refine zd ?_ _ | refine zg ?_ | refine ze ?_ _)); refine zz ?_ NB257_258.out _; (with_reducible repeat (first | refine zd ?_ _ | refine zg ?_ | refine ze ?_ _)); refine zz ?_ NB257_258.out _; (with_reducible repeat (first | refine zd ?_ _ | refine zg ?_ | refine ze ?_ _)); refine zu (cs := #[.int .i64 ((rd_T139 l0 (l2.length : Int)).f0), .int .i64 ((rd_T139 l0 (l2.length : Int)).f1), .string (⟨#[]⟩ : ByteArray)]) ?_ 2 _ rfl; (with_reducible repeat (first | refine zd ?_ _ | refine zg ?_ | refine ze ?_ _)); refine zu (cs := #[.int .i64 ((rd_T139 l0 (l2.length : Int)).f0), .int .i64 0, .string (⟨#[]⟩ : ByteArray)]) ?_ 1 _ rfl; (with_reducible repeat (first | refine zd ?_ _ | refine zg ?_ | refine ze ?_ _)); refine zu (cs := #[.int .i64 0, .int .i64 0, .string (⟨#[]⟩ : ByteArray)]) ?_ 0 _ rfl; (with_reducible repeat (first | refine zd ?_ _ | refine zg ?_ | refine ze ?_ _)); exact BK257.out⟩, ⟨by (with_reducible repeat (first | refine zd ?_ _ | refine zg ?_ | refine ze ?_ _)); refine zu (cs := #[.string ((rd_T72 l1 a3).f0), .int .i64 ((rd_T72 l1 a3).f1), .int .i64 ((rd_T72 l1 a3).f2), .int .i64 ((rd_T72 l1 a3).f3), .slice none 0 0]) ?_ 4 _ rfl; (with_reducible repeat (first | refine zd ?_ _ | refine zg ?_ | refine ze ?_ _)); refine zu (cs := #[.string ((rd_T72 l1 a3).f0), .int .i64 ((rd_T72 l1 a3).f1), .int .i64 ((rd_T72 l1 a3).f2), .int .i64 0, .slice none 0 0]) ?_ 3 _ rfl; (with_reducible repeat (first | refine zd ?_ _ | refine zg ?_ | refine ze ?_ _)); refine zu (cs := #[.string ((rd_T72 l1 a3).f0), .int .i64 ((rd_T72 l1 a3).f1), .int .i64 0, .int .i64 0, .slice none 0 0]) ?_ 2 _ rfl; (with_reducible repeat (first | refine zd ?_ _ | refine zg ?_ | refine ze ?_ _)); refine zu (cs := #[.string ((rd_T72 l1 a3).f0), .int .i64 0, .int .i64 0, .int .i64 0, .slice none 0 0]) ?_ 1 _ rfl; (with_reducible repeat (first | refine zd ?_ _ | refine zg ?_ | refine ze ?_ _)); refine zu (cs := #[.string (⟨#[]⟩ : ByteArray), .int .i64 0, .int .i64 0, .int .i64 0, .slice none 0 0]) ?_ 0 _ rfl; (with_reducible repeat (first | refine zd ?_ _ | refine zg ?_ | refine ze ?_ _)); refine zz ?_ NB258_257.out _; (with_reducible repeat (first | refine zd ?_ _ | refine zg ?_ | refine ze ?_ _)); refine zz ?_ NB258_257.out _; (with_reducible repeat (first | refine zd ?_ _ | refine zg ?_ | refine ze ?_ _)); refine zz ?_ NB258_257.out _; (with_reducible repeat (first | refine zd ?_ _ | refine zg ?_ | refine ze ?_ _)); exact BK258.out⟩, ⟨zH55⟩⟩
 case round =>
  clear H'
  try clear c1
  try clear c2
  try clear c5
  try clear c5b0
  try clear c5b1
  try clear c6
  try clear c6b0
  try clear c6b1
  try clear c7
  try clear c7b0
  try clear c8
  try clear c8b0
  try clear hx255_0
  try clear hx255_1
  try clear hx255_2
  try clear hx256_0
  try clear hx256_1
  try clear hx256_2
  try clear hx256_3
  try clear hx256_4
  try clear p255
  try clear p256
  try clear q255
  try clear q256
  obtain ⟨x11_1, x12_1, x26_1, rfl, rfl, rfl, HA, HK1, BK257, BK258, HB⟩ := hrel
  cases gk with
  | zero => exact absurd HA.out (by simp [impl_shiftCode.l0])
  | succ k1 =>
   have H := HA.out
   clear HA
   simp only [impl_shiftCode.l0] at H
   by_cases c21 : x26_1 < (l2.length : Int)
   rotate_left
   ·rw [if_neg c21] at H
    have c21b0 := decide_eq_false c21
    clear c21
    replace H := Option.bind_eq_some_iff.mp H
    obtain ⟨t263, A310, H⟩ := H
    replace H : (if t263 = true then (if x12_1 = true then (some 12) else (if (wrap64 ((wrap64 (x11_1 + ((rd_T139 l0 (l2.length : Int)).f1))) - ((rd_T139 l0 (l2.length : Int)).f0))) > ((rd_T72 l1 a3).f1) then (some 11) else (some 0))) else (some 13)) = some r := H
    have A31 := za A310
    clear A310
    by_cases c32 : t263 = true
    rotate_left
    ·replace c32 := Bool.eq_false_iff.mpr c32
     subst c32
     have H1 : (some 13) = some r := by rw [if_neg (show ¬ (false = true) by decide)] at H; exact H
     clear H
     have H := H1
     clear H1
     obtain rfl := Option.some.inj H
     have hnb44 := NB258_257.out
     have hnc44 := NB257_258.out
     obtain ⟨hcz45_0, hcz45_1, hcz45_2, hcz45_3, hcz45_4, hfz45_0, hfz45_1, hfz45_2, hfz45_3, hfz45_4⟩ := zB5 BK258.out
     obtain ⟨hcz46_0, hcz46_1, hcz46_2, hfz46_0, hfz46_1, hfz46_2⟩ := zB3 BK257.out
     go_wp2_with (first | ((with_reducible refine gate_callee (f := 132) rfl ?_); refine goesL_ (some 67) rfl rfl Try.func132 zG130 rfl #[.slice A256_4 ((rd_T72 l1 a3).f4).length c256_4, .string ((rd_T139 l0 (l2.length : Int)).f2)] rfl zG93 ?_; (with_reducible refine (slices_Contains_string_string.calls k1 _ _ ((rd_T72 l1 a3).f4) ((rd_T139 l0 (l2.length : Int)).f2) false _ ?side1 ?side2 A31.out).mono ?_); (case side1 => exact zH59); (case side2 => exact HC256_4.out); rintro e w' ⟨rfl, ⟨nd, rfl⟩⟩; refine ⟨_, rfl, ?_⟩))
     go_ret
     exact zH25
    subst c32
    have H1 : (if x12_1 = true then (some 12) else (if (wrap64 ((wrap64 (x11_1 + ((rd_T139 l0 (l2.length : Int)).f1))) - ((rd_T139 l0 (l2.length : Int)).f0))) > ((rd_T72 l1 a3).f1) then (some 11) else (some 0))) = some r := by rw [if_pos rfl] at H; exact H
    clear H
    have H := H1
    clear H1
    by_cases c33 : x12_1 = true
    ·subst c33
     have H1 : (some 12) = some r := by rw [if_pos rfl] at H; exact H
     clear H
     have H := H1
     clear H1
     obtain rfl := Option.some.inj H
     have hnb34 := NB258_257.out
     have hnc34 := NB257_258.out
     obtain ⟨hcz35_0, hcz35_1, hcz35_2, hcz35_3, hcz35_4, hfz35_0, hfz35_1, hfz35_2, hfz35_3, hfz35_4⟩ := zB5 BK258.out
     obtain ⟨hcz36_0, hcz36_1, hcz36_2, hfz36_0, hfz36_1, hfz36_2⟩ := zB3 BK257.out
     go_wp2_with (first | ((with_reducible refine gate_callee (f := 132) rfl ?_); refine goesL_ (some 67) rfl rfl Try.func132 zG130 rfl #[.slice A256_4 ((rd_T72 l1 a3).f4).length c256_4, .string ((rd_T139 l0 (l2.length : Int)).f2)] rfl zG93 ?_; (with_reducible refine (slices_Contains_string_string.calls k1 _ _ ((rd_T72 l1 a3).f4) ((rd_T139 l0 (l2.length : Int)).f2) true _ ?side1 ?side2 A31.out).mono ?_); (case side1 => exact zH59); (case side2 => exact HC256_4.out); rintro e w' ⟨rfl, ⟨nd, rfl⟩⟩; refine ⟨_, rfl, ?_⟩))
     go_ret
     exact zH25
    replace c33 := Bool.eq_false_iff.mpr c33
    subst c33
    have H1 : (if (wrap64 ((wrap64 (x11_1 + ((rd_T139 l0 (l2.length : Int)).f1))) - ((rd_T139 l0 (l2.length : Int)).f0))) > ((rd_T72 l1 a3).f1) then (some 11) else (some 0)) = some r := by rw [if_neg (show ¬ (false = true) by decide)] at H; exact H
    clear H
    have H := H1
    clear H1
    by_cases c37 : (wrap64 ((wrap64 (x11_1 + ((rd_T139 l0 (l2.length : Int)).f1))) - ((rd_T139 l0 (l2.length : Int)).f0))) > ((rd_T72 l1 a3).f1)
    rotate_left
    ·rw [if_neg c37] at H
     have c37b0 : decide (((rd_T72 l1 a3).f1) < (wrap64 ((wrap64 (x11_1 + ((rd_T139 l0 (l2.length : Int)).f1))) - ((rd_T139 l0 (l2.length : Int)).f0)))) = false := decide_eq_false c37
     clear c37
     obtain rfl := Option.some.inj H
     have hnb41 := NB258_257.out
     have hnc41 := NB257_258.out
     obtain ⟨hcz42_0, hcz42_1, hcz42_2, hcz42_3, hcz42_4, hfz42_0, hfz42_1, hfz42_2, hfz42_3, hfz42_4⟩ := zB5 BK258.out
     obtain ⟨hcz43_0, hcz43_1, hcz43_2, hfz43_0, hfz43_1, hfz43_2⟩ := zB3 BK257.out
     go_wp2_with (first | ((with_reducible refine gate_callee (f := 132) rfl ?_); refine goesL_ (some 67) rfl rfl Try.func132 zG130 rfl #[.slice A256_4 ((rd_T72 l1 a3).f4).length c256_4, .string ((rd_T139 l0 (l2.length : Int)).f2)] rfl zG93 ?_; (with_reducible refine (slices_Contains_string_string.calls k1 _ _ ((rd_T72 l1 a3).f4) ((rd_T139 l0 (l2.length : Int)).f2) true _ ?side1 ?side2 A31.out).mono ?_); (case side1 => exact zH59); (case side2 => exact HC256_4.out); rintro e w' ⟨rfl, ⟨nd, rfl⟩⟩; refine ⟨_, rfl, ?_⟩))
     go_ret
     exact zH25
    rw [if_pos c37] at H
    have c37b0 : decide (((rd_T72 l1 a3).f1) < (wrap64 ((wrap64 (x11_1 + ((rd_T139 l0 (l2.length : Int)).f1))) - ((rd_T139 l0 (l2.length : Int)).f0)))) = true := decide_eq_true c37
    clear c37
    obtain rfl := Option.some.inj H
    have hnb38 := NB258_257.out
    have hnc38 := NB257_258.out
    obtain ⟨hcz39_0, hcz39_1, hcz39_2, hcz39_3, hcz39_4, hfz39_0, hfz39_1, hfz39_2, hfz39_3, hfz39_4⟩ := zB5 BK258.out
    obtain ⟨hcz40_0, hcz40_1, hcz40_2, hfz40_0, hfz40_1, hfz40_2⟩ := zB3 BK257.out
    go_wp2_with (first | ((with_reducible refine gate_callee (f := 132) rfl ?_); refine goesL_ (some 67) rfl rfl Try.func132 zG130 rfl #[.slice A256_4 ((rd_T72 l1 a3).f4).length c256_4, .string ((rd_T139 l0 (l2.length : Int)).f2)] rfl zG93 ?_; (with_reducible refine (slices_Contains_string_string.calls k1 _ _ ((rd_T72 l1 a3).f4) ((rd_T139 l0 (l2.length : Int)).f2) true _ ?side1 ?side2 A31.out).mono ?_); (case side1 => exact zH59); (case side2 => exact HC256_4.out); rintro e w' ⟨rfl, ⟨nd, rfl⟩⟩; refine ⟨_, rfl, ?_⟩))
    go_ret
    exact zH25
   rw [if_pos c21] at H
   have c21b0 := decide_eq_true c21
   clear c21
   by_cases c22 : 0 ≤ x26_1
   rotate_left
   ·rw [if_neg c22] at H
    exact absurd H (by simp)
   rw [if_pos c22] at H
   have c22b0 := decide_eq_true c22
   clear c22
   by_cases c23 : x26_1 < (l2.length : Int)
   rotate_left
   ·rw [if_neg c23] at H
    exact absurd H (by simp)
   rw [if_pos c23] at H
   have c23b0 := decide_eq_true c23
   clear c23
   by_cases c24 : (rd l2 x26_1) = a3
   rotate_left
   ·rw [if_neg c24] at H
    have c24b0 : ((rd l2 x26_1) == a3) = false := beq_eq_false_iff_ne.mpr c24
    have c24b1 : ((rd l2 x26_1) != a3) = true := bne_iff_ne.mpr c24
    have H' := za H
    clear H
    have p259 : 0 ≤ (x26_1 : Int) := zO
    have q259 : x26_1 < (l2.length : Int) := zO
    obtain ⟨ad259, e259, hx259_0⟩ := zbf HR2.out x26_1 p259 q259
    cases e259
    replace hx259_0 := (HB.out.cell (zb w _ hx259_0)).trans hx259_0
    replace p259 := eq_true p259
    replace q259 := eq_true q259
    go_wp2
    go_roundg k1
    case measure => have := HK1.out; omega
    case rel => exact ⟨(x11_1), (x12_1), (wrap64 (x26_1 + 1)), zG129, zG129, zG129, H', ⟨zH128⟩, ⟨zH100⟩, ⟨zH101⟩, ⟨zH55⟩⟩
   rw [if_pos c24] at H
   have c24b0 : ((rd l2 x26_1) == a3) = true := beq_iff_eq.mpr c24
   have c24b1 : ((rd l2 x26_1) != a3) = false := bne_eq_false_iff_eq.mpr c24
   clear c24
   by_cases c25 : x26_1 < (l0.length : Int)
   rotate_left
   ·rw [if_neg c25] at H
    exact absurd H (by simp)
   rw [if_pos c25] at H
   have c25b0 := decide_eq_true c25
   clear c25
   by_cases c26 : x12_1 = true
   ·subst c26
    have H1 : (impl_shiftCode.l0 k1 l0 a3 (wrap64 (x11_1 + (wrap64 (((rd_T139 l0 x26_1).f1) - ((rd_T139 l0 x26_1).f0))))) true l2 (l2.length : Int) (wrap64 (x26_1 + 1)) ((rd_T139 l0 (l2.length : Int)).f0) ((rd_T139 l0 (l2.length : Int)).f1) ((rd_T139 l0 (l2.length : Int)).f2) ((rd_T72 l1 a3).f0) ((rd_T72 l1 a3).f1) ((rd_T72 l1 a3).f2) ((rd_T72 l1 a3).f3) ((rd_T72 l1 a3).f4)) = some r := by rw [if_pos rfl] at H; exact H
    clear H
    have H := H1
    clear H1
    have H' := za H
    clear H
    have p259 : 0 ≤ (x26_1 : Int) := zO
    have q259 : x26_1 < (l2.length : Int) := zO
    obtain ⟨ad259, e259, hx259_0⟩ := zbf HR2.out x26_1 p259 q259
    cases e259
    replace hx259_0 := (HB.out.cell (zb w _ hx259_0)).trans hx259_0
    replace p259 := eq_true p259
    replace q259 := eq_true q259
    try go_wp2
    obtain ⟨n0_, n1_, n2_⟩ := zD3 (zg BK257.out) (zg BK258.out) (zh HB.out)
    clear BK257 BK258 HB
    have BK257 := n0_
    have BK258 := n1_
    have HB := n2_
    clear n0_ n1_ n2_
    have p260 : 0 ≤ (x26_1 : Int) := zO
    have q260 : x26_1 < (l0.length : Int) := zO
    obtain ⟨ad260, e260, hx260_0, hx260_1, hx260_2⟩ := at_T139 HR0.out x26_1 p260 q260
    have hw260_2 := hx260_2
    have hw260_1 := hx260_1
    have hw260_0 := hx260_0
    obtain rfl : ad255 = ad260 := (by injection e260)
    replace hx260_0 := (HB.out.cell (zb w _ hx260_0)).trans hx260_0
    replace hx260_1 := (HB.out.cell (zb w _ hx260_1)).trans hx260_1
    replace hx260_2 := (HB.out.cell (zb w _ hx260_2)).trans hx260_2
    replace p260 := eq_true p260
    replace q260 := eq_true q260
    have p261 : 0 ≤ (x26_1 : Int) := zO
    have q261 : x26_1 < (l0.length : Int) := zO
    obtain ⟨ad261, e261, hx261_0, hx261_1, hx261_2⟩ := at_T139 HR0.out x26_1 p261 q261
    have hw261_2 := hx261_2
    have hw261_1 := hx261_1
    have hw261_0 := hx261_0
    obtain rfl : ad255 = ad261 := (by injection e261)
    replace hx261_0 := (HB.out.cell (zb w _ hx261_0)).trans hx261_0
    replace hx261_1 := (HB.out.cell (zb w _ hx261_1)).trans hx261_1
    replace hx261_2 := (HB.out.cell (zb w _ hx261_2)).trans hx261_2
    replace p261 := eq_true p261
    replace q261 := eq_true q261
    refine start_ (n := 14) (S := fun w' => w'.cell? (ad255.add ((x26_1).toNat * 3)) = some (.int .i64 ((rd_T139 l0 x26_1).f0)) ∧ w'.cell? ⟨(ad255.add ((x26_1).toNat * 3)).block, (ad255.add ((x26_1).toNat * 3)).off + 1, none⟩ = some (.int .i64 ((rd_T139 l0 x26_1).f1)) ∧ w'.cell? ⟨(ad255.add ((x26_1).toNat * 3)).block, (ad255.add ((x26_1).toNat * 3)).off + 2, none⟩ = some (.string ((rd_T139 l0 x26_1).f2)) ∧ w'.cell? (ad255.add ((x26_1).toNat * 3)) = some (.int .i64 ((rd_T139 l0 x26_1).f0)) ∧ w'.cell? ⟨(ad255.add ((x26_1).toNat * 3)).block, (ad255.add ((x26_1).toNat * 3)).off + 1, none⟩ = some (.int .i64 ((rd_T139 l0 x26_1).f1)) ∧ w'.cell? ⟨(ad255.add ((x26_1).toNat * 3)).block, (ad255.add ((x26_1).toNat * 3)).off + 2, none⟩ = some (.string ((rd_T139 l0 x26_1).f2))) (ds := []) b7A13 zG130 rfl rfl ⟨((HB.out.cell (zb w _ hw260_0)).trans hw260_0), ((HB.out.cell (zb w _ hw260_1)).trans hw260_1), ((HB.out.cell (zb w _ hw260_2)).trans hw260_2), ((HB.out.cell (zb w _ hw261_0)).trans hw261_0), ((HB.out.cell (zb w _ hw261_1)).trans hw261_1), ((HB.out.cell (zb w _ hw261_2)).trans hw261_2)⟩ (fun hHeld => ?_); refine with_tabW impl_shiftCode.tab6 impl_shiftCode.bits6 (fun HT_ HW_ => ?_)
    generalize wr.drew = w27 at BK257 BK258 HB hx260_0 hx260_1 hx260_2 hx261_0 hx261_1 hx261_2 hHeld ⊢
    refine zP 0 34 b7A14 HT_ ?_
    refine zP 1 35 b7A15 HT_ ?_
    refine zP 2 36 b7A16 HT_ ?_
    refine zP 3 37 b7A17 HT_ ?_
    refine zP 4 38 b7A18 HT_ ?_
    refine zP 6 40 b7A19 HT_ ?_
    refine zP 7 41 b7A20 HT_ ?_
    refine zP 8 42 b7A21 HT_ ?_
    refine zP 9 43 b7A22 HT_ ?_
    refine zQ 5 39 b7A23 HT_ HW_ hHeld ?_
    refine zQ 10 44 b7A24 HT_ HW_ hHeld ?_
    refine zP 11 45 b7A25 HT_ ?_
    refine zP 12 46 b7A26 HT_ ?_
    refine zP 13 11 b7A27 HT_ ?_
    refine done_ (done_of HT_.out zG130) ?_
    try go_wp2
    obtain ⟨n0_, n1_, n2_⟩ := zD3 (zg BK257.out) (zg BK258.out) (zh HB.out)
    clear BK257 BK258 HB
    have BK257 := n0_
    have BK258 := n1_
    have HB := n2_
    clear n0_ n1_ n2_
    refine start_ (n := 15) (S := fun w' => True) (ds := []) b7A1 zG130 rfl rfl trivial (fun hHeld => ?_); refine with_tabW impl_shiftCode.tab7 impl_shiftCode.bits7 (fun HT_ HW_ => ?_)
    generalize w27.drew = w28 at BK257 BK258 HB hHeld ⊢
    refine zP 0 47 b7A2 HT_ ?_
    refine zP 1 48 b7A3 HT_ ?_
    refine zU 2 49 b7A4 HT_ ?_
    refine zU 3 50 b7A10 HT_ ?_
    refine zU 4 51 #[true, true, true, true, true, false, false, false, false, false, false, false, false, false, false] HT_ ?_
    refine zU 5 52 #[true, true, true, true, true, true, false, false, false, false, false, false, false, false, false] HT_ ?_
    refine zU 6 53 #[true, true, true, true, true, true, true, false, false, false, false, false, false, false, false] HT_ ?_
    refine zU 7 54 b7A11 HT_ ?_
    refine zU 8 55 b7A12 HT_ ?_
    refine zU 9 56 b7A5 HT_ ?_
    refine zU 10 57 b7A0 HT_ ?_
    refine zU 11 58 b7A6 HT_ ?_
    refine zU 12 59 b7A7 HT_ ?_
    refine zP 13 60 b7A8 HT_ ?_
    refine zP 14 12 b7A9 HT_ ?_
    refine done_ (done_of HT_.out zG130) ?_
    try go_wp2
    go_roundg k1
    case measure => have := HK1.out; omega
    case rel => exact ⟨(wrap64 (x11_1 + (wrap64 (((rd_T139 l0 x26_1).f1) - ((rd_T139 l0 x26_1).f0))))), (true), (wrap64 (x26_1 + 1)), zG129, zG129, zG129, H', ⟨zH128⟩, ⟨zH100⟩, ⟨zH101⟩, ⟨zH55⟩⟩
   replace c26 := Bool.eq_false_iff.mpr c26
   subst c26
   have H1 : (impl_shiftCode.l0 k1 l0 a3 (wrap64 (x11_1 + (wrap64 (((rd_T139 l0 x26_1).f1) - ((rd_T139 l0 x26_1).f0))))) (decide (((rd_T139 l0 (l2.length : Int)).f0) < (wrap64 (((rd_T139 l0 x26_1).f1) + ((rd_T72 l1 a3).f2))))) l2 (l2.length : Int) (wrap64 (x26_1 + 1)) ((rd_T139 l0 (l2.length : Int)).f0) ((rd_T139 l0 (l2.length : Int)).f1) ((rd_T139 l0 (l2.length : Int)).f2) ((rd_T72 l1 a3).f0) ((rd_T72 l1 a3).f1) ((rd_T72 l1 a3).f2) ((rd_T72 l1 a3).f3) ((rd_T72 l1 a3).f4)) = some r := by rw [if_neg (show ¬ (false = true) by decide)] at H; exact H
   clear H
   have H := H1
   clear H1
   have H' := za H
   clear H
   have p259 : 0 ≤ (x26_1 : Int) := zO
   have q259 : x26_1 < (l2.length : Int) := zO
   obtain ⟨ad259, e259, hx259_0⟩ := zbf HR2.out x26_1 p259 q259
   cases e259
   replace hx259_0 := (HB.out.cell (zb w _ hx259_0)).trans hx259_0
   replace p259 := eq_true p259
   replace q259 := eq_true q259
   try go_wp2
   obtain ⟨n0_, n1_, n2_⟩ := zD3 (zg BK257.out) (zg BK258.out) (zh HB.out)
   clear BK257 BK258 HB
   have BK257 := n0_
   have BK258 := n1_
   have HB := n2_
   clear n0_ n1_ n2_
   have p260 : 0 ≤ (x26_1 : Int) := zO
   have q260 : x26_1 < (l0.length : Int) := zO
   obtain ⟨ad260, e260, hx260_0, hx260_1, hx260_2⟩ := at_T139 HR0.out x26_1 p260 q260
   have hw260_2 := hx260_2
   have hw260_1 := hx260_1
   have hw260_0 := hx260_0
   obtain rfl : ad255 = ad260 := (by injection e260)
   replace hx260_0 := (HB.out.cell (zb w _ hx260_0)).trans hx260_0
   replace hx260_1 := (HB.out.cell (zb w _ hx260_1)).trans hx260_1
   replace hx260_2 := (HB.out.cell (zb w _ hx260_2)).trans hx260_2
   replace p260 := eq_true p260
   replace q260 := eq_true q260
   have p261 : 0 ≤ (x26_1 : Int) := zO
   have q261 : x26_1 < (l0.length : Int) := zO
   obtain ⟨ad261, e261, hx261_0, hx261_1, hx261_2⟩ := at_T139 HR0.out x26_1 p261 q261
   have hw261_2 := hx261_2
   have hw261_1 := hx261_1
   have hw261_0 := hx261_0
   obtain rfl : ad255 = ad261 := (by injection e261)
   replace hx261_0 := (HB.out.cell (zb w _ hx261_0)).trans hx261_0
   replace hx261_1 := (HB.out.cell (zb w _ hx261_1)).trans hx261_1
   replace hx261_2 := (HB.out.cell (zb w _ hx261_2)).trans hx261_2
   replace p261 := eq_true p261
   replace q261 := eq_true q261
   refine start_ (n := 14) (S := fun w' => w'.cell? (ad255.add ((x26_1).toNat * 3)) = some (.int .i64 ((rd_T139 l0 x26_1).f0)) ∧ w'.cell? ⟨(ad255.add ((x26_1).toNat * 3)).block, (ad255.add ((x26_1).toNat * 3)).off + 1, none⟩ = some (.int .i64 ((rd_T139 l0 x26_1).f1)) ∧ w'.cell? ⟨(ad255.add ((x26_1).toNat * 3)).block, (ad255.add ((x26_1).toNat * 3)).off + 2, none⟩ = some (.string ((rd_T139 l0 x26_1).f2)) ∧ w'.cell? (ad255.add ((x26_1).toNat * 3)) = some (.int .i64 ((rd_T139 l0 x26_1).f0)) ∧ w'.cell? ⟨(ad255.add ((x26_1).toNat * 3)).block, (ad255.add ((x26_1).toNat * 3)).off + 1, none⟩ = some (.int .i64 ((rd_T139 l0 x26_1).f1)) ∧ w'.cell? ⟨(ad255.add ((x26_1).toNat * 3)).block, (ad255.add ((x26_1).toNat * 3)).off + 2, none⟩ = some (.string ((rd_T139 l0 x26_1).f2))) (ds := []) b7A13 zG130 rfl rfl ⟨((HB.out.cell (zb w _ hw260_0)).trans hw260_0), ((HB.out.cell (zb w _ hw260_1)).trans hw260_1), ((HB.out.cell (zb w _ hw260_2)).trans hw260_2), ((HB.out.cell (zb w _ hw261_0)).trans hw261_0), ((HB.out.cell (zb w _ hw261_1)).trans hw261_1), ((HB.out.cell (zb w _ hw261_2)).trans hw261_2)⟩ (fun hHeld => ?_); refine with_tabW impl_shiftCode.tab6 impl_shiftCode.bits6 (fun HT_ HW_ => ?_)
   generalize wr.drew = w29 at BK257 BK258 HB hx260_0 hx260_1 hx260_2 hx261_0 hx261_1 hx261_2 hHeld ⊢
   refine zP 0 34 b7A14 HT_ ?_
   refine zP 1 35 b7A15 HT_ ?_
   refine zP 2 36 b7A16 HT_ ?_
   refine zP 3 37 b7A17 HT_ ?_
   refine zP 4 38 b7A18 HT_ ?_
   refine zP 6 40 b7A19 HT_ ?_
   refine zP 7 41 b7A20 HT_ ?_
   refine zP 8 42 b7A21 HT_ ?_
   refine zP 9 43 b7A22 HT_ ?_
   refine zQ 5 39 b7A23 HT_ HW_ hHeld ?_
   refine zQ 10 44 b7A24 HT_ HW_ hHeld ?_
   refine zP 11 45 b7A25 HT_ ?_
   refine zP 12 46 b7A26 HT_ ?_
   refine zP 13 11 b7A27 HT_ ?_
   refine done_ (done_of HT_.out zG130) ?_
   try go_wp2
   obtain ⟨n0_, n1_, n2_⟩ := zD3 (zg BK257.out) (zg BK258.out) (zh HB.out)
   clear BK257 BK258 HB
   have BK257 := n0_
   have BK258 := n1_
   have HB := n2_
   clear n0_ n1_ n2_
   have p262 : 0 ≤ (x26_1 : Int) := zO
   have q262 : x26_1 < (l0.length : Int) := zO
   obtain ⟨ad262, e262, hx262_0, hx262_1, hx262_2⟩ := at_T139 HR0.out x26_1 p262 q262
   have hw262_2 := hx262_2
   have hw262_1 := hx262_1
   have hw262_0 := hx262_0
   obtain rfl : ad255 = ad262 := (by injection e262)
   replace hx262_0 := (HB.out.cell (zb w _ hx262_0)).trans hx262_0
   replace hx262_1 := (HB.out.cell (zb w _ hx262_1)).trans hx262_1
   replace hx262_2 := (HB.out.cell (zb w _ hx262_2)).trans hx262_2
   replace p262 := eq_true p262
   replace q262 := eq_true q262
   refine start_ (n := 15) (S := fun w' => w'.cell? ⟨gb257, 0, none⟩ = some (.int .i64 ((rd_T139 l0 (l2.length : Int)).f0)) ∧ w'.cell? ⟨gb257, 1, none⟩ = some (.int .i64 ((rd_T139 l0 (l2.length : Int)).f1)) ∧ w'.cell? ⟨gb257, 2, none⟩ = some (.string ((rd_T139 l0 (l2.length : Int)).f2)) ∧ w'.cell? ⟨gb258, 0, none⟩ = some (.string ((rd_T72 l1 a3).f0)) ∧ w'.cell? ⟨gb258, 1, none⟩ = some (.int .i64 ((rd_T72 l1 a3).f1)) ∧ w'.cell? ⟨gb258, 2, none⟩ = some (.int .i64 ((rd_T72 l1 a3).f2)) ∧ w'.cell? ⟨gb258, 3, none⟩ = some (.int .i64 ((rd_T72 l1 a3).f3)) ∧ w'.cell? ⟨gb258, 4, none⟩ = some (.slice A256_4 ((rd_T72 l1 a3).f4).length c256_4) ∧ w'.cell? (ad255.add ((x26_1).toNat * 3)) = some (.int .i64 ((rd_T139 l0 x26_1).f0)) ∧ w'.cell? ⟨(ad255.add ((x26_1).toNat * 3)).block, (ad255.add ((x26_1).toNat * 3)).off + 1, none⟩ = some (.int .i64 ((rd_T139 l0 x26_1).f1)) ∧ w'.cell? ⟨(ad255.add ((x26_1).toNat * 3)).block, (ad255.add ((x26_1).toNat * 3)).off + 2, none⟩ = some (.string ((rd_T139 l0 x26_1).f2))) (ds := []) b7A1 zG130 rfl rfl ⟨(zk BK257.out 0).trans rfl, (zk BK257.out 1).trans rfl, (zk BK257.out 2).trans rfl, (zk BK258.out 0).trans rfl, (zk BK258.out 1).trans rfl, (zk BK258.out 2).trans rfl, (zk BK258.out 3).trans rfl, (zk BK258.out 4).trans rfl, ((HB.out.cell (zb w _ hw262_0)).trans hw262_0), ((HB.out.cell (zb w _ hw262_1)).trans hw262_1), ((HB.out.cell (zb w _ hw262_2)).trans hw262_2)⟩ (fun hHeld => ?_); refine with_tabW impl_shiftCode.tab7 impl_shiftCode.bits7 (fun HT_ HW_ => ?_)
   generalize w29.drew = w30 at BK257 BK258 HB hx262_0 hx262_1 hx262_2 hHeld ⊢
   refine zP 0 47 b7A2 HT_ ?_
   refine zP 1 48 b7A3 HT_ ?_
   refine zP 2 49 b7A4 HT_ ?_
   refine zP 4 51 #[true, true, true, false, true, false, false, false, false, false, false, false, false, false, false] HT_ ?_
   refine zP 5 52 #[true, true, true, false, true, true, false, false, false, false, false, false, false, false, false] HT_ ?_
   refine zP 6 53 #[true, true, true, false, true, true, true, false, false, false, false, false, false, false, false] HT_ ?_
   refine zP 7 54 #[true, true, true, false, true, true, true, true, false, false, false, false, false, false, false] HT_ ?_
   refine zP 9 56 #[true, true, true, false, true, true, true, true, false, true, false, false, false, false, false] HT_ ?_
   refine zQ 3 50 #[true, true, true, true, true, true, true, true, false, true, false, false, false, false, false] HT_ HW_ hHeld ?_
   refine zQ 8 55 b7A5 HT_ HW_ hHeld ?_
   refine zQ 10 57 b7A0 HT_ HW_ hHeld ?_
   refine zP 11 58 b7A6 HT_ ?_
   refine zP 12 59 b7A7 HT_ ?_
   refine zP 13 60 b7A8 HT_ ?_
   refine zP 14 12 b7A9 HT_ ?_
   refine done_ (done_of HT_.out zG130) ?_
   try go_wp2
   go_roundg k1
   case measure => have := HK1.out; omega
   case rel => exact ⟨(wrap64 (x11_1 + (wrap64 (((rd_T139 l0 x26_1).f1) - ((rd_T139 l0 x26_1).f0))))), (decide (((rd_T139 l0 (l2.length : Int)).f0) < (wrap64 (((rd_T139 l0 x26_1).f1) + ((rd_T72 l1 a3).f2))))), (wrap64 (x26_1 + 1)), zG129, zG129, zG129, H', ⟨zH128⟩, ⟨zH100⟩, ⟨zH101⟩, ⟨zH55⟩⟩
end Go.Proofs.Ytojncbpeeboooaa.Y
