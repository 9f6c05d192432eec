-- squeezed
-- made by pp.py (wip/tools) out of the translation; Lean checks it
import Derived.Test.YtjibigpdbpipcaaR0
import Derived.Test.YtjibigpdbpipcaaR8
namespace Go.Proofs.Ytjibigpdbpipcaa.R
open Go.RowKit Go.Proofs.YtjibigpdbpipcaaW.PrintWords Go.Proofs.YtjibigpdbpipcaaW.PrintLast Go.Proofs.YtjibigpdbpipcaaW.PrintMore
attribute [local go_sem] max2_int min2_int max_two min_two max_three min_three max_four min_four   -- for this text's walks alone
set_option linter.unusedVariables false
set_option linter.unusedSimpArgs false

abbrev b10A0 : Array Bool := #[true, true, true, true, true, true, true, true, true, true, true, false, false, false, false]
abbrev b10A1 : Array Bool := #[false, false, false, false, false, false, false, false, false, false, false, false, false, false, false]
abbrev b10A2 : Array Bool := #[true, false, false, false, false, false, false, false, false, false, false, false, false, false, false]
abbrev b10A3 : Array Bool := #[true, true, false, false, false, false, false, false, false, false, false, false, false, false, false]
abbrev b10A4 : Array Bool := #[true, true, true, false, false, false, false, false, false, false, false, false, false, false, false]
abbrev b10A5 : Array Bool := #[true, true, true, true, true, true, true, true, true, true, false, false, false, false, false]
abbrev b10A6 : Array Bool := #[true, true, true, true, true, true, true, true, true, true, true, true, false, false, false]
abbrev b10A7 : Array Bool := #[true, true, true, true, true, true, true, true, true, true, true, true, true, false, false]
abbrev b10A8 : Array Bool := #[true, true, true, true, true, true, true, true, true, true, true, true, true, true, false]
abbrev b10A9 : Array Bool := #[true, true, true, true, true, true, true, true, true, true, true, true, true, true, true]
abbrev b10A10 : Array Bool := #[true, true, true, true, false, false, false, false, false, false, false, false, false, false, false]
abbrev b10A11 : Array Bool := #[true, true, true, true, true, true, true, true, false, false, false, false, false, false, false]
abbrev b10A12 : Array Bool := #[true, true, true, true, true, true, true, true, true, false, false, false, false, false, false]
abbrev b10A13 : Array Bool := #[false, false, false, false, false, false, false, false, false, false, false, false, false, false]
abbrev b10A14 : Array Bool := #[true, false, false, false, false, false, false, false, false, false, false, false, false, false]
abbrev b10A15 : Array Bool := #[true, true, false, false, false, false, false, false, false, false, false, false, false, false]
abbrev b10A16 : Array Bool := #[true, true, true, false, false, false, false, false, false, false, false, false, false, false]
abbrev b10A17 : Array Bool := #[true, true, true, true, false, false, false, false, false, false, false, false, false, false]
abbrev b10A18 : Array Bool := #[true, true, true, true, true, false, false, false, false, false, false, false, false, false]
abbrev b10A19 : Array Bool := #[true, true, true, true, true, false, true, false, false, false, false, false, false, false]
abbrev b10A20 : Array Bool := #[true, true, true, true, true, false, true, true, false, false, false, false, false, false]
abbrev b10A21 : Array Bool := #[true, true, true, true, true, false, true, true, true, false, false, false, false, false]
abbrev b10A22 : Array Bool := #[true, true, true, true, true, false, true, true, true, true, false, false, false, false]
abbrev b10A23 : Array Bool := #[true, true, true, true, true, true, true, true, true, true, false, false, false, false]
abbrev b10A24 : Array Bool := #[true, true, true, true, true, true, true, true, true, true, true, false, false, false]
abbrev b10A25 : Array Bool := #[true, true, true, true, true, true, true, true, true, true, true, true, false, false]
abbrev b10A26 : Array Bool := #[true, true, true, true, true, true, true, true, true, true, true, true, true, false]
abbrev b10A27 : Array Bool := #[true, true, true, true, true, true, true, true, true, true, true, true, true, true]
/-! ### impl_shiftCode: function 62 -/
def impl_shiftCode.l0 : Nat → List (S98) → Int → Int → Bool → List Int → Int → Int → Int → Int → ByteArray → ByteArray → Int → Int → Int → List ByteArray → Option (Int)
 | 0, _, _, _, _, _, _, _, _, _, _, _, _, _, _, _ => none
 | k + 1, x0, x3, x11, x12, x24, x25, x26, x240000, x240001, x240002, x241000, x241001, x241002, x241003, x241004 => if x26 < x25 then (if 0 ≤ x26 then (if x26 < (x24.length : Int) then (if (rd x24 x26) = x3 then (if x26 < (x0.length : Int) then (if x12 = true then (impl_shiftCode.l0 k x0 x3 (wrap64 (x11 + (wrap64 (((rd_T98 x0 x26).f1) - ((rd_T98 x0 x26).f0))))) true x24 x25 (wrap64 (x26 + 1)) x240000 x240001 x240002 x241000 x241001 x241002 x241003 x241004) else (impl_shiftCode.l0 k x0 x3 (wrap64 (x11 + (wrap64 (((rd_T98 x0 x26).f1) - ((rd_T98 x0 x26).f0))))) (decide (x240000 < (wrap64 (((rd_T98 x0 x26).f1) + x241002)))) x24 x25 (wrap64 (x26 + 1)) x240000 x240001 x240002 x241000 x241001 x241002 x241003 x241004)) else (none)) else (impl_shiftCode.l0 k x0 x3 x11 x12 x24 x25 (wrap64 (x26 + 1)) x240000 x240001 x240002 x241000 x241001 x241002 x241003 x241004)) else (none)) else (none)) else ((slices_Contains_string_string.f k x241004 x240002).bind fun t245 => (if t245 = true then (if x12 = true then (some 12) else (if (wrap64 ((wrap64 (x11 + x240001)) - x240000)) > x241001 then (some 11) else (some 0))) else (some 13)))
def impl_shiftCode.f (k : Nat) (l0 : List (S98)) (l1 : List (S100)) (l2 : List Int) (a3 : Int) : Option (Int) := if 0 ≤ (l2.length : Int) then (if (l2.length : Int) < (l0.length : Int) then (if 0 ≤ a3 then (if a3 < (l1.length : Int) then (impl_shiftCode.l0 k l0 a3 0 false l2 (l2.length : Int) 0 ((rd_T98 l0 (l2.length : Int)).f0) ((rd_T98 l0 (l2.length : Int)).f1) ((rd_T98 l0 (l2.length : Int)).f2) ((rd_T100 l1 a3).f0) ((rd_T100 l1 a3).f1) ((rd_T100 l1 a3).f2) ((rd_T100 l1 a3).f3) ((rd_T100 l1 a3).f4)) else (none)) else (none)) else (none)) else (none)
theorem impl_shiftCode.mono_l : ∀ k, (∀ y0 y1 y2 y3 y4 y5 y6 y7 y8 y9 y10 y11 y12 y13 y14, LeO (impl_shiftCode.l0 k y0 y1 y2 y3 y4 y5 y6 y7 y8 y9 y10 y11 y12 y13 y14) (impl_shiftCode.l0 (k + 1) y0 y1 y2 y3 y4 y5 y6 y7 y8 y9 y10 y11 y12 y13 y14))
 | 0 => fun _ _ _ _ _ _ _ _ _ _ _ _ _ _ _ r h => by simp [impl_shiftCode.l0] at h
 | k + 1 => by
  have ih0 := impl_shiftCode.mono_l k
  ·intro y0 y1 y2 y3 y4 y5 y6 y7 y8 y9 y10 y11 y12 y13 y14
   unfold impl_shiftCode.l0
   repeat' first
   | (with_reducible exact ih0 _ _ _ _ _ _ _ _ _ _ _ _ _ _ _)
   | (with_reducible exact slices_Contains_string_string.mono _ _ _)
   | (with_reducible exact LeO.refl _)
   | (with_reducible exact LeO.none _)
   | (with_reducible refine LeO.ite ?_ ?_)
   | (with_reducible refine LeO.bind ?_ (fun _ => ?_))
   | exact ih0 _ _ _ _ _ _ _ _ _ _ _ _ _ _ _
   | exact slices_Contains_string_string.mono _ _ _
   | exact LeO.none _
   | refine LeO.ite ?_ ?_
   | refine LeO.bind ?_ (fun _ => ?_)
theorem impl_shiftCode.mono : ∀ a0 a1 a2 a3 k, LeO (impl_shiftCode.f k a0 a1 a2 a3) (impl_shiftCode.f (k + 1) a0 a1 a2 a3) := by
 intro a0 a1 a2 a3 k
 have ih0 := impl_shiftCode.mono_l k
 unfold impl_shiftCode.f
 repeat' first
   | (with_reducible exact ih0 _ _ _ _ _ _ _ _ _ _ _ _ _ _ _)
   | (with_reducible exact slices_Contains_string_string.mono _ _ _)
   | (with_reducible exact LeO.refl _)
   | (with_reducible exact LeO.none _)
   | (with_reducible refine LeO.ite ?_ ?_)
   | (with_reducible refine LeO.bind ?_ (fun _ => ?_))
   | exact ih0 _ _ _ _ _ _ _ _ _ _ _ _ _ _ _
   | exact slices_Contains_string_string.mono _ _ _
   | exact LeO.none _
   | refine LeO.ite ?_ ?_
   | refine LeO.bind ?_ (fun _ => ?_)
def impl_shiftCode.T1 : Bool × List (List Nat × List Nat) := (true, [([], []), ([], []), ([1], [1]), ([0, 2], [0, 2]), ([3], [3]), ([], []), ([], []), ([5, 6], [5, 6]), ([7], [7]), ([], []), ([], []), ([9, 4, 0, 1, 2, 3, 4, 9, 10], [4, 9]), ([10, 8, 11, 0, 1, 2, 3, 4, 5, 6, 7, 8, 9, 10, 11], [8, 10]), ([12, 0, 1, 2, 3, 4, 5, 6, 7, 8, 9, 10, 11, 12], []), ([13, 0, 1, 2, 3, 4, 5, 6, 7, 8, 9, 10, 11, 12, 13], [])])
def impl_shiftCode.B1 : List Nat := [0, 0, 2, 7, 15, 0, 0, 96, 224, 0, 0, 1567, 4095, 8191, 16383]
theorem impl_shiftCode.tab1 : rtab .any (opsOf Try.f62 1) = impl_shiftCode.T1 := by kernel_rfl
theorem impl_shiftCode.bits1 : waitsOk impl_shiftCode.T1.2 impl_shiftCode.B1 = true := by kernel_rfl
def impl_shiftCode.T6 : Bool × List (List Nat × List Nat) := (true, [([], []), ([], []), ([], []), ([1, 2], [1, 2]), ([3], [3]), ([4], [4]), ([], []), ([], []), ([6, 7], [6, 7]), ([8], [8]), ([9], [9]), ([5, 10], [5, 10]), ([0, 11], [0, 11]), ([12, 0, 1, 2, 3, 4, 5, 6, 7, 8, 9, 10, 11, 12], [0, 12])])
def impl_shiftCode.B6 : List Nat := [0, 0, 0, 6, 14, 30, 0, 0, 192, 448, 960, 2046, 4095, 8191]
theorem impl_shiftCode.tab6 : rtab .any (opsOf Try.f62 6) = impl_shiftCode.T6 := by kernel_rfl
theorem impl_shiftCode.bits6 : waitsOk impl_shiftCode.T6.2 impl_shiftCode.B6 = true := by kernel_rfl
def impl_shiftCode.T7 : Bool × List (List Nat × List Nat) := (true, [([], []), ([0], [0]), ([1], [1]), ([2, 1], [1, 2]), ([1], [1]), ([1], [1]), ([4, 5, 1], [1, 4, 5]), ([6, 1], [1, 6]), ([7, 1], [1, 7]), ([1], [1]), ([9, 1], [1, 9]), ([8, 10, 1], [1, 8, 10]), ([3, 11, 1], [1, 3, 11]), ([1, 12], [1, 12]), ([13, 1, 0, 1, 2, 3, 4, 5, 6, 7, 8, 9, 10, 11, 12, 13], [0, 13])])
def impl_shiftCode.B7 : List Nat := [0, 1, 3, 7, 3, 3, 51, 115, 243, 3, 515, 2035, 4095, 8191, 16383]
theorem impl_shiftCode.tab7 : rtab .any (opsOf Try.f62 7) = impl_shiftCode.T7 := by kernel_rfl
theorem impl_shiftCode.bits7 : waitsOk impl_shiftCode.T7.2 impl_shiftCode.B7 = true := by kernel_rfl
set_option maxHeartbeats 8000000 in
set_option maxRecDepth 100000 in
theorem impl_shiftCode.calls (k : Nat) (A0 : Option Addr) (c0 : Nat) (l0 : List (S98)) (A1 : Option Addr) (c1 : Nat) (l1 : List (S100)) (A2 : Option Addr) (c2 : Nat) (l2 : List Int) (a3 : Int) (r : Int) (w : World) (hr0 : Kd.C k98 w A0 l0.length l0) (hc0 : l0.length ≤ c0) (hr1 : Kd.C k100 w A1 l1.length l1) (hc1 : l1.length ≤ c1) (hr2 : Kd.C (Kd.int .i64) w A2 l2.length l2) (hc2 : l2.length ≤ c2) (h : impl_shiftCode.f k l0 l1 l2 a3 = some r) :
  Calls Try.prog 62 #[.slice A0 l0.length c0, .slice A1 l1.length c1, .slice A2 l2.length c2, .int .i64 a3] w fun e w' => e = .returned (.int .i64 r) ∧ Below w.heap.size w w' := by
 have hu98 := Try.underlying98
 have hu100 := Try.underlying100
 have HR0 := zb hr0
 have HC0 := zb hc0
 clear hr0 hc0
 have HR1 := zb hr1
 have HC1 := zb hc1
 clear hr1 hc1
 have HR2 := zb hr2
 have HC2 := zb hc2
 clear hr2 hc2
 have HB := zb (Below.refl w.heap.size w)
 have H : (if 0 ≤ (l2.length : Int) then (if (l2.length : Int) < (l0.length : Int) then (if 0 ≤ a3 then (if a3 < (l1.length : Int) then (impl_shiftCode.l0 k l0 a3 0 false l2 (l2.length : Int) 0 ((rd_T98 l0 (l2.length : Int)).f0) ((rd_T98 l0 (l2.length : Int)).f1) ((rd_T98 l0 (l2.length : Int)).f2) ((rd_T100 l1 a3).f0) ((rd_T100 l1 a3).f1) ((rd_T100 l1 a3).f2) ((rd_T100 l1 a3).f3) ((rd_T100 l1 a3).f4)) else (none)) else (none)) else (none)) else (none)) = some r := h
 clear h
 by_cases c5 : 0 ≤ (l2.length : Int)
 rotate_left
 ·rw [if_neg c5] at H
  exact absurd H (by simp)

 rw [if_pos c5] at H
 have c5b0 := decide_eq_true c5
 have c5b1 : decide (0 ≤ l2.length) = true := decide_eq_true (by omega)
 clear c5
 by_cases c6 : (l2.length : Int) < (l0.length : Int)
 rotate_left
 ·rw [if_neg c6] at H
  exact absurd H (by simp)
 rw [if_pos c6] at H
 have c6b0 := decide_eq_true c6
 have c6b1 : decide (l2.length < l0.length) = true := decide_eq_true (Int.ofNat_lt.mp c6)
 clear c6
 by_cases c7 : 0 ≤ a3
 rotate_left
 ·rw [if_neg c7] at H
  exact absurd H (by simp)
 rw [if_pos c7] at H
 have c7b0 := decide_eq_true c7
 clear c7
 by_cases c8 : a3 < (l1.length : Int)
 rotate_left
 ·rw [if_neg c8] at H
  exact absurd H (by simp)
 rw [if_pos c8] at H
 have c8b0 := decide_eq_true c8
 clear c8
 have H' := zb H
 clear H
 go_enter Try.func62, Try.ntmps62
 try go_wp2
 have n0_ := zb (zd HB.out)
 clear HB
 have HB := n0_
 clear n0_
 have p237 : 0 ≤ ((l2.length : Int) : Int) := zO
 have q237 : (l2.length : Int) < (l0.length : Int) := zO
 obtain ⟨ad237, e237, hx237_0, hx237_1, hx237_2⟩ := at_T98 HR0.out (l2.length : Int) p237 q237
 have hw237_2 := hx237_2
 (try simp only [Go.IntWalk.toNatUp] at hw237_2)
 have hw237_1 := hx237_1
 (try simp only [Go.IntWalk.toNatUp] at hw237_1)
 have hw237_0 := hx237_0
 (try simp only [Go.IntWalk.toNatUp] at hw237_0)
 cases e237
 replace hx237_0 := (HB.out.cell (za w _ hx237_0)).trans hx237_0
 replace hx237_1 := (HB.out.cell (za w _ hx237_1)).trans hx237_1
 replace hx237_2 := (HB.out.cell (za w _ hx237_2)).trans hx237_2
 (try simp only [Go.IntWalk.toNatUp] at hx237_0)
 (try simp only [Go.IntWalk.toNatUp] at hx237_1)
 (try simp only [Go.IntWalk.toNatUp] at hx237_2)
 replace p237 := eq_true p237
 replace q237 := eq_true q237
 have p238 : 0 ≤ (a3 : Int) := zO
 have q238 : a3 < (l1.length : Int) := zO
 obtain ⟨ad238, A238_4, c238_4, e238, hx238_0, hx238_1, hx238_2, hx238_3, hx238_4, hl238_4, hi238_4⟩ := at_T100 HR1.out a3 p238 q238
 have hw238_4 := hx238_4
 have hw238_3 := hx238_3
 have hw238_2 := hx238_2
 have hw238_1 := hx238_1
 have hw238_0 := hx238_0
 cases e238
 replace hx238_0 := (HB.out.cell (za w _ hx238_0)).trans hx238_0
 replace hx238_1 := (HB.out.cell (za w _ hx238_1)).trans hx238_1
 replace hx238_2 := (HB.out.cell (za w _ hx238_2)).trans hx238_2
 replace hx238_3 := (HB.out.cell (za w _ hx238_3)).trans hx238_3
 replace hx238_4 := (HB.out.cell (za w _ hx238_4)).trans hx238_4
 have HR238_4 := zb hi238_4
 have HC238_4 := zb hl238_4
 clear hi238_4 hl238_4
 replace p238 := eq_true p238
 replace q238 := eq_true q238
 refine start_ (n := 15) (S := fun w' => w'.cell? (ad237.add (l2.length * 3)) = some (.int .i64 ((rd_T98 l0 (l2.length : Int)).f0)) ∧ w'.cell? ⟨(ad237.add (l2.length * 3)).block, (ad237.add (l2.length * 3)).off + 1, none⟩ = some (.int .i64 ((rd_T98 l0 (l2.length : Int)).f1)) ∧ w'.cell? ⟨(ad237.add (l2.length * 3)).block, (ad237.add (l2.length * 3)).off + 2, none⟩ = some (.string ((rd_T98 l0 (l2.length : Int)).f2)) ∧ w'.cell? (ad238.add ((a3).toNat * 5)) = some (.string ((rd_T100 l1 a3).f0)) ∧ w'.cell? ⟨(ad238.add ((a3).toNat * 5)).block, (ad238.add ((a3).toNat * 5)).off + 1, none⟩ = some (.int .i64 ((rd_T100 l1 a3).f1)) ∧ w'.cell? ⟨(ad238.add ((a3).toNat * 5)).block, (ad238.add ((a3).toNat * 5)).off + 2, none⟩ = some (.int .i64 ((rd_T100 l1 a3).f2)) ∧ w'.cell? ⟨(ad238.add ((a3).toNat * 5)).block, (ad238.add ((a3).toNat * 5)).off + 3, none⟩ = some (.int .i64 ((rd_T100 l1 a3).f3)) ∧ w'.cell? ⟨(ad238.add ((a3).toNat * 5)).block, (ad238.add ((a3).toNat * 5)).off + 4, none⟩ = some (.slice A238_4 ((rd_T100 l1 a3).f4).length c238_4)) (ds := []) b10A1 zG96 rfl rfl ⟨((HB.out.cell (za w _ hw237_0)).trans hw237_0), ((HB.out.cell (za w _ hw237_1)).trans hw237_1), ((HB.out.cell (za w _ hw237_2)).trans hw237_2), ((HB.out.cell (za w _ hw238_0)).trans hw238_0), ((HB.out.cell (za w _ hw238_1)).trans hw238_1), ((HB.out.cell (za w _ hw238_2)).trans hw238_2), ((HB.out.cell (za w _ hw238_3)).trans hw238_3), ((HB.out.cell (za w _ hw238_4)).trans hw238_4)⟩ (fun hHeld => ?_); refine with_tabW impl_shiftCode.tab1 impl_shiftCode.bits1 (fun HT_ HW_ => ?_)
 generalize w.drew = w9 at HB HR238_4 hx237_0 hx237_1 hx237_2 hx238_0 hx238_1 hx238_2 hx238_3 hx238_4 hHeld ⊢
 refine pure_ (i := 0) (N := some 15) (v := ?_) (a' := ?_) b10A2 rfl rfl (any_of HT_.out zG96) (fun _ _ _ h => h) (Or.inl ⟨by rfl, ?_⟩) ?_ ?_
 rotate_left
 ·intro w'
  go_simp
  with_reducible rfl
 rotate_left
 ·simp only [Act.put, List.setIfInBounds_toArray, List.set_cons_zero, List.set_cons_succ, i64_w, i32_w]
  rfl
 refine pure_ (i := 1) (N := some 16) (v := ?_) (a' := ?_) b10A3 rfl rfl (any_of HT_.out zG96) (fun _ _ _ h => h) (Or.inl ⟨by rfl, ?_⟩) ?_ ?_
 rotate_left
 ·intro w'
  go_simp
  with_reducible rfl
 rotate_left
 ·simp only [Act.put, List.setIfInBounds_toArray, List.set_cons_zero, List.set_cons_succ, i64_w, i32_w]
  rfl
 refine pure_ (i := 2) (N := some 17) (v := ?_) (a' := ?_) b10A4 rfl rfl (any_of HT_.out zG96) (fun _ _ _ h => h) (Or.inl ⟨by rfl, ?_⟩) ?_ ?_
 rotate_left
 ·intro w'
  go_simp
  with_reducible rfl
 rotate_left
 ·simp only [Act.put, List.setIfInBounds_toArray, List.set_cons_zero, List.set_cons_succ, i64_w, i32_w]
  rfl
 refine pure_ (i := 3) (N := some 18) (v := ?_) (a' := ?_) b10A10 rfl rfl (any_of HT_.out zG96) (fun _ _ _ h => h) (Or.inl ⟨by rfl, ?_⟩) ?_ ?_
 rotate_left
 ·intro w'
  go_simp
  with_reducible rfl
 rotate_left
 ·simp only [Act.put, List.setIfInBounds_toArray, List.set_cons_zero, List.set_cons_succ, i64_w, i32_w]
  rfl
 refine pure_ (i := 5) (N := some 20) (v := ?_) (a' := ?_) #[true, true, true, true, false, true, false, false, false, false, false, false, false, false, false] rfl rfl (any_of HT_.out zG96) (fun _ _ _ h => h) (Or.inl ⟨by rfl, ?_⟩) ?_ ?_
 rotate_left
 ·intro w'
  go_simp
  with_reducible rfl
 rotate_left
 ·simp only [Act.put, List.setIfInBounds_toArray, List.set_cons_zero, List.set_cons_succ, i64_w, i32_w]
  rfl
 refine pure_ (i := 6) (N := some 21) (v := ?_) (a' := ?_) #[true, true, true, true, false, true, true, false, false, false, false, false, false, false, false] rfl rfl (any_of HT_.out zG96) (fun _ _ _ h => h) (Or.inl ⟨by rfl, ?_⟩) ?_ ?_
 rotate_left
 ·intro w'
  go_simp
  with_reducible rfl
 rotate_left
 ·simp only [Act.put, List.setIfInBounds_toArray, List.set_cons_zero, List.set_cons_succ, i64_w, i32_w]
  rfl
 refine pure_ (i := 7) (N := some 22) (v := ?_) (a' := ?_) #[true, true, true, true, false, true, true, true, false, false, false, false, false, false, false] rfl rfl (any_of HT_.out zG96) (fun _ _ _ h => h) (Or.inl ⟨by rfl, ?_⟩) ?_ ?_
 rotate_left
 ·intro w'
  go_simp
  with_reducible rfl
 rotate_left
 ·simp only [Act.put, List.setIfInBounds_toArray, List.set_cons_zero, List.set_cons_succ, i64_w, i32_w]
  rfl
 refine take_ (i := 4) (N := some 19) (v := ?_) (a' := ?_) b10A11 rfl rfl (take_ofW HT_.out HW_.out zG96) (fun _ _ _ h => h) (Or.inl ⟨by rfl, ?_⟩) hHeld ?_ ?_
 rotate_left
 ·rintro w' ⟨s0, s1, s2, s3, s4, s5, s6, s7⟩
  go_simp
  with_reducible rfl
 rotate_left
 ·simp only [Act.put, List.setIfInBounds_toArray, List.set_cons_zero, List.set_cons_succ, i64_w, i32_w]
  rfl
 refine take_ (i := 8) (N := some 23) (v := ?_) (a' := ?_) b10A12 rfl rfl (take_ofW HT_.out HW_.out zG96) (fun _ _ _ h => h) (Or.inl ⟨by rfl, ?_⟩) hHeld ?_ ?_
 rotate_left
 ·rintro w' ⟨s0, s1, s2, s3, s4, s5, s6, s7⟩
  go_simp
  with_reducible rfl
 rotate_left
 ·simp only [Act.put, List.setIfInBounds_toArray, List.set_cons_zero, List.set_cons_succ, i64_w, i32_w]
  rfl
 refine join_ (σ := Nat × Nat) 4 b10A0 (fun s_ => [(9, .pointer (some ⟨s_.1, 0, none⟩)), (10, .pointer (some ⟨s_.2, 0, none⟩))]) (fun s_ w' => (w'.cell? (ad237.add (l2.length * 3)) = some (.int .i64 ((rd_T98 l0 (l2.length : Int)).f0)) ∧ w'.cell? ⟨(ad237.add (l2.length * 3)).block, (ad237.add (l2.length * 3)).off + 1, none⟩ = some (.int .i64 ((rd_T98 l0 (l2.length : Int)).f1)) ∧ w'.cell? ⟨(ad237.add (l2.length * 3)).block, (ad237.add (l2.length * 3)).off + 2, none⟩ = some (.string ((rd_T98 l0 (l2.length : Int)).f2)) ∧ w'.cell? (ad238.add ((a3).toNat * 5)) = some (.string ((rd_T100 l1 a3).f0)) ∧ w'.cell? ⟨(ad238.add ((a3).toNat * 5)).block, (ad238.add ((a3).toNat * 5)).off + 1, none⟩ = some (.int .i64 ((rd_T100 l1 a3).f1)) ∧ w'.cell? ⟨(ad238.add ((a3).toNat * 5)).block, (ad238.add ((a3).toNat * 5)).off + 2, none⟩ = some (.int .i64 ((rd_T100 l1 a3).f2)) ∧ w'.cell? ⟨(ad238.add ((a3).toNat * 5)).block, (ad238.add ((a3).toNat * 5)).off + 3, none⟩ = some (.int .i64 ((rd_T100 l1 a3).f3)) ∧ w'.cell? ⟨(ad238.add ((a3).toNat * 5)).block, (ad238.add ((a3).toNat * 5)).off + 4, none⟩ = some (.slice A238_4 ((rd_T100 l1 a3).f4).length c238_4)) ∧ (w'.heap[s_.1]? = some (.cells #[.int .i64 0, .int .i64 0, .string (⟨#[]⟩ : ByteArray)] 98 (0, 0))) ∧ (w'.heap[s_.2]? = some (.cells #[.string (⟨#[]⟩ : ByteArray), .int .i64 0, .int .i64 0, .int .i64 0, .slice none 0 0] 100 (0, 0))) ∧ (w.heap.size ≤ s_.1) ∧ (w.heap.size ≤ s_.1) ∧ (s_.2 ≠ s_.1) ∧ (s_.1 ≠ s_.2) ∧ (w.heap.size ≤ s_.2) ∧ (w.heap.size ≤ s_.2) ∧ (Below w.heap.size w w')) ?_ ?_
 rotate_left
 ·intro hCont
  refine two_ (i := 9) (j := 10) (Ni := some 9) (Nj := some 10) b10A5 #[true, true, true, true, true, true, true, true, true, false, true, false, false, false, false] rfl rfl rfl rfl (two_of HT_.out zG96) (by decide) (by decide) (fun K hK => ?_) (fun K hK => ?_)
  ·skip
   refine box_step ?hg (N := 9) ?hd (cs := #[.int .i64 0, .int .i64 0, .string (⟨#[]⟩ : ByteArray)]) (t := 98) ?hr ?_; (case hd => rfl); (case hg => rfl); (case hr => exact zH100)
   intro gb239 hg w10 hbox hb
   have n0_ := zb (zq zG76 hb)
   have n1_ := zb (hbox)
   have n2_ := zb ((by rw [hg]; exact (zo zG76) : w.heap.size ≤ gb239))
   have n3_ := zb ((by rw [hg]; exact (zo zG76) : w.heap.size ≤ gb239))
   clear HB
   have HB := n0_
   have BK239 := n1_
   have GW239 := n2_
   have GE239 := n3_
   clear n0_ n1_ n2_ n3_
   clear hb hbox hg
   refine hK.out _ _ ⟨((HB.out.cell (za w _ hw237_0)).trans hw237_0), ((HB.out.cell (za w _ hw237_1)).trans hw237_1), ((HB.out.cell (za w _ hw237_2)).trans hw237_2), ((HB.out.cell (za w _ hw238_0)).trans hw238_0), ((HB.out.cell (za w _ hw238_1)).trans hw238_1), ((HB.out.cell (za w _ hw238_2)).trans hw238_2), ((HB.out.cell (za w _ hw238_3)).trans hw238_3), ((HB.out.cell (za w _ hw238_4)).trans hw238_4)⟩ (fun hHeld => ?_)
   clear hK K
   refine norm_ (a' := ?_) ?_ ?_
   rotate_left
   ·show Act.put _ (some 9) _ = _
    simp only [Act.put, List.setIfInBounds_toArray, List.set_cons_zero, List.set_cons_succ, i64_w, i32_w]
    rfl
   refine one_ (i := 10) (N := some 10) b10A0 rfl rfl (one_of HT_.out zG96) (by decide) (fun K hK => ?_)
   refine box_step ?hg (N := 10) ?hd (cs := #[.string (⟨#[]⟩ : ByteArray), .int .i64 0, .int .i64 0, .int .i64 0, .slice none 0 0]) (t := 100) ?hr ?_; (case hd => rfl); (case hg => rfl); (case hr => exact zH100)
   intro gb240 hg w11 hbox hb
   have n0_ := zb (zu (g := gb239) (o := .cells #[.int .i64 0, .int .i64 0, .string (⟨#[]⟩ : ByteArray)] 98 (0, 0)) zK181 hb)
   have n1_ := zb (zq zK159 hb)
   have n2_ := zb (hbox)
   have n3_ := zb ((by rw [hg]; exact (zo zK159) : w.heap.size ≤ gb240))
   have n4_ := zb ((by rw [hg]; exact (zo zK159) : w.heap.size ≤ gb240))
   have n5_ := zb ((by rw [hg]; exact Nat.ne_of_lt (zae (g := gb239) (o := .cells #[.int .i64 0, .int .i64 0, .string (⟨#[]⟩ : ByteArray)] 98 (0, 0)) zK181) : gb239 ≠ gb240))
   have n6_ := zb ((by rw [hg]; exact Nat.ne_of_gt (zae (g := gb239) (o := .cells #[.int .i64 0, .int .i64 0, .string (⟨#[]⟩ : ByteArray)] 98 (0, 0)) zK181) : gb240 ≠ gb239))
   clear BK239
   clear HB
   have BK239 := n0_
   have HB := n1_
   have BK240 := n2_
   have GW240 := n3_
   have GE240 := n4_
   have NB239_240 := n5_
   have NB240_239 := n6_
   clear n0_ n1_ n2_ n3_ n4_ n5_ n6_
   clear hb hbox hg
   refine hK.out _ _ ⟨((HB.out.cell (za w _ hw237_0)).trans hw237_0), ((HB.out.cell (za w _ hw237_1)).trans hw237_1), ((HB.out.cell (za w _ hw237_2)).trans hw237_2), ((HB.out.cell (za w _ hw238_0)).trans hw238_0), ((HB.out.cell (za w _ hw238_1)).trans hw238_1), ((HB.out.cell (za w _ hw238_2)).trans hw238_2), ((HB.out.cell (za w _ hw238_3)).trans hw238_3), ((HB.out.cell (za w _ hw238_4)).trans hw238_4)⟩ (fun hHeld => ?_)
   clear hK K
   refine norm_ (a' := ?_) ?_ ?_
   rotate_left
   ·show Act.put _ (some 10) _ = _
    simp only [Act.put, List.setIfInBounds_toArray, List.set_cons_zero, List.set_cons_succ, i64_w, i32_w]
    rfl
   exact norm_ (by simp only [putAll, Act.put, List.setIfInBounds_toArray, List.set_cons_zero, List.set_cons_succ]) (hCont (gb239, gb240) _ ⟨hHeld, zK181, zK182, GW239.out, GE239.out, NB240_239.out, NB239_240.out, GW240.out, GE240.out, (by repeat (first | (with_reducible first | exact HB.out | apply ze | apply zc | apply zd | refine zh ?_ GE239.out | refine zh ?_ GE240.out) | exact HB.out))⟩)
  ·skip
   refine box_step ?hg (N := 10) ?hd (cs := #[.string (⟨#[]⟩ : ByteArray), .int .i64 0, .int .i64 0, .int .i64 0, .slice none 0 0]) (t := 100) ?hr ?_; (case hd => rfl); (case hg => rfl); (case hr => exact zH100)
   intro gb240 hg w10 hbox hb
   have n0_ := zb (zq zG76 hb)
   have n1_ := zb (hbox)
   have n2_ := zb ((by rw [hg]; exact (zo zG76) : w.heap.size ≤ gb240))
   have n3_ := zb ((by rw [hg]; exact (zo zG76) : w.heap.size ≤ gb240))
   clear HB
   have HB := n0_
   have BK240 := n1_
   have GW240 := n2_
   have GE240 := n3_
   clear n0_ n1_ n2_ n3_
   clear hb hbox hg
   refine hK.out _ _ ⟨((HB.out.cell (za w _ hw237_0)).trans hw237_0), ((HB.out.cell (za w _ hw237_1)).trans hw237_1), ((HB.out.cell (za w _ hw237_2)).trans hw237_2), ((HB.out.cell (za w _ hw238_0)).trans hw238_0), ((HB.out.cell (za w _ hw238_1)).trans hw238_1), ((HB.out.cell (za w _ hw238_2)).trans hw238_2), ((HB.out.cell (za w _ hw238_3)).trans hw238_3), ((HB.out.cell (za w _ hw238_4)).trans hw238_4)⟩ (fun hHeld => ?_)
   clear hK K
   refine norm_ (a' := ?_) ?_ ?_
   rotate_left
   ·show Act.put _ (some 10) _ = _
    simp only [Act.put, List.setIfInBounds_toArray, List.set_cons_zero, List.set_cons_succ, i64_w, i32_w]
    rfl
   refine one_ (i := 9) (N := some 9) b10A0 rfl rfl (one_of HT_.out zG96) (by decide) (fun K hK => ?_)
   refine box_step ?hg (N := 9) ?hd (cs := #[.int .i64 0, .int .i64 0, .string (⟨#[]⟩ : ByteArray)]) (t := 98) ?hr ?_; (case hd => rfl); (case hg => rfl); (case hr => exact zH100)
   intro gb239 hg w11 hbox hb
   have n0_ := zb (zu (g := gb240) (o := .cells #[.string (⟨#[]⟩ : ByteArray), .int .i64 0, .int .i64 0, .int .i64 0, .slice none 0 0] 100 (0, 0)) zK182 hb)
   have n1_ := zb (zq zK160 hb)
   have n2_ := zb (hbox)
   have n3_ := zb ((by rw [hg]; exact (zo zK160) : w.heap.size ≤ gb239))
   have n4_ := zb ((by rw [hg]; exact (zo zK160) : w.heap.size ≤ gb239))
   have n5_ := zb ((by rw [hg]; exact Nat.ne_of_lt (zae (g := gb240) (o := .cells #[.string (⟨#[]⟩ : ByteArray), .int .i64 0, .int .i64 0, .int .i64 0, .slice none 0 0] 100 (0, 0)) zK182) : gb240 ≠ gb239))
   have n6_ := zb ((by rw [hg]; exact Nat.ne_of_gt (zae (g := gb240) (o := .cells #[.string (⟨#[]⟩ : ByteArray), .int .i64 0, .int .i64 0, .int .i64 0, .slice none 0 0] 100 (0, 0)) zK182) : gb239 ≠ gb240))
   clear BK240
   clear HB
   have BK240 := n0_
   have HB := n1_
   have BK239 := n2_
   have GW239 := n3_
   have GE239 := n4_
   have NB240_239 := n5_
   have NB239_240 := n6_
   clear n0_ n1_ n2_ n3_ n4_ n5_ n6_
   clear hb hbox hg
   refine hK.out _ _ ⟨((HB.out.cell (za w _ hw237_0)).trans hw237_0), ((HB.out.cell (za w _ hw237_1)).trans hw237_1), ((HB.out.cell (za w _ hw237_2)).trans hw237_2), ((HB.out.cell (za w _ hw238_0)).trans hw238_0), ((HB.out.cell (za w _ hw238_1)).trans hw238_1), ((HB.out.cell (za w _ hw238_2)).trans hw238_2), ((HB.out.cell (za w _ hw238_3)).trans hw238_3), ((HB.out.cell (za w _ hw238_4)).trans hw238_4)⟩ (fun hHeld => ?_)
   clear hK K
   refine norm_ (a' := ?_) ?_ ?_
   rotate_left
   ·show Act.put _ (some 9) _ = _
    simp only [Act.put, List.setIfInBounds_toArray, List.set_cons_zero, List.set_cons_succ, i64_w, i32_w]
    rfl
   exact norm_ (by simp only [putAll, Act.put, List.setIfInBounds_toArray, List.set_cons_zero, List.set_cons_succ]) (hCont (gb239, gb240) _ ⟨hHeld, zK181, zK182, GW239.out, GE239.out, NB240_239.out, NB239_240.out, GW240.out, GE240.out, (by repeat (first | (with_reducible first | exact HB.out | apply ze | apply zc | apply zd | refine zh ?_ GE240.out | refine zh ?_ GE239.out) | exact HB.out))⟩)
 rintro ⟨gb239, gb240⟩ w12 ⟨hS_, h0_, h1_, h2_, h3_, h4_, h5_, h6_, h7_, h8_⟩
 have n0_ : Aside0 (w12.heap[gb239]? = some (.cells #[.int .i64 0, .int .i64 0, .string (⟨#[]⟩ : ByteArray)] 98 (0, 0))) := ⟨h0_⟩
 have n1_ : Aside0 (w12.heap[gb240]? = some (.cells #[.string (⟨#[]⟩ : ByteArray), .int .i64 0, .int .i64 0, .int .i64 0, .slice none 0 0] 100 (0, 0))) := ⟨h1_⟩
 have n2_ : Aside0 (w.heap.size ≤ gb239) := ⟨h2_⟩
 have n3_ : Aside0 (w.heap.size ≤ gb239) := ⟨h3_⟩
 have n4_ : Aside0 (gb240 ≠ gb239) := ⟨h4_⟩
 have n5_ : Aside0 (gb239 ≠ gb240) := ⟨h5_⟩
 have n6_ : Aside0 (w.heap.size ≤ gb240) := ⟨h6_⟩
 have n7_ : Aside0 (w.heap.size ≤ gb240) := ⟨h7_⟩
 have n8_ : Aside0 (Below w.heap.size w w12) := ⟨h8_⟩
 clear HB
 clear h0_ h1_ h2_ h3_ h4_ h5_ h6_ h7_ h8_
 have BK239 := n0_
 have BK240 := n1_
 have GW239 := n2_
 have GE239 := n3_
 have NB240_239 := n4_
 have NB239_240 := n5_
 have GW240 := n6_
 have GE240 := n7_
 have HB := n8_
 clear n0_ n1_ n2_ n3_ n4_ n5_ n6_ n7_ n8_
 have hHeld : w12.cell? (ad237.add (l2.length * 3)) = some (.int .i64 ((rd_T98 l0 (l2.length : Int)).f0)) ∧ w12.cell? ⟨(ad237.add (l2.length * 3)).block, (ad237.add (l2.length * 3)).off + 1, none⟩ = some (.int .i64 ((rd_T98 l0 (l2.length : Int)).f1)) ∧ w12.cell? ⟨(ad237.add (l2.length * 3)).block, (ad237.add (l2.length * 3)).off + 2, none⟩ = some (.string ((rd_T98 l0 (l2.length : Int)).f2)) ∧ w12.cell? (ad238.add ((a3).toNat * 5)) = some (.string ((rd_T100 l1 a3).f0)) ∧ w12.cell? ⟨(ad238.add ((a3).toNat * 5)).block, (ad238.add ((a3).toNat * 5)).off + 1, none⟩ = some (.int .i64 ((rd_T100 l1 a3).f1)) ∧ w12.cell? ⟨(ad238.add ((a3).toNat * 5)).block, (ad238.add ((a3).toNat * 5)).off + 2, none⟩ = some (.int .i64 ((rd_T100 l1 a3).f2)) ∧ w12.cell? ⟨(ad238.add ((a3).toNat * 5)).block, (ad238.add ((a3).toNat * 5)).off + 3, none⟩ = some (.int .i64 ((rd_T100 l1 a3).f3)) ∧ w12.cell? ⟨(ad238.add ((a3).toNat * 5)).block, (ad238.add ((a3).toNat * 5)).off + 4, none⟩ = some (.slice A238_4 ((rd_T100 l1 a3).f4).length c238_4) := hS_
 refine norm_ (a' := ?_) ?_ ?_
 rotate_left
 ·simp only [putAll, Act.put, List.setIfInBounds_toArray, List.set_cons_zero, List.set_cons_succ]
  rfl
 refine one_ (i := 11) (N := none) b10A6 rfl rfl (one_of HT_.out zG96) (by decide) (fun K hK => ?_)
 have hs13 : w12.cell? ⟨gb239, 0, none⟩ = some (.int .i64 0) := (zg BK239.out 0).trans rfl
 have hfs13 := zf BK239.out 0
 have hns13_1 := NB240_239.out
 have hms13_1 := NB239_240.out
 have hs14 : w12.cell? ⟨gb239, 1, none⟩ = some (.int .i64 0) := (zg BK239.out 1).trans rfl
 have hfs14 := zf BK239.out 1
 have hns14_1 := NB240_239.out
 have hms14_1 := NB239_240.out
 have hs15 : w12.cell? ⟨gb239, 2, none⟩ = some (.string (⟨#[]⟩ : ByteArray)) := (zg BK239.out 2).trans rfl
 have hfs15 := zf BK239.out 2
 have hns15_1 := NB240_239.out
 have hms15_1 := NB239_240.out
 refine skip_ (w1 := ?_) (by rfl) rfl ?_ ?_
 rotate_left
 ·go_simp
  rfl
 refine hK.out _ _ ⟨((cell_far (p := ⟨gb239, _, none⟩) zK116 _).trans (((cell_far (p := ⟨gb239, _, none⟩) zK116 _).trans (((cell_far (p := ⟨gb239, _, none⟩) zK116 _).trans (hHeld.1)))))), ((cell_far (p := ⟨gb239, _, none⟩) zK117 _).trans (((cell_far (p := ⟨gb239, _, none⟩) zK117 _).trans (((cell_far (p := ⟨gb239, _, none⟩) zK117 _).trans (hHeld.2.1)))))), ((cell_far (p := ⟨gb239, _, none⟩) zK118 _).trans (((cell_far (p := ⟨gb239, _, none⟩) zK118 _).trans (((cell_far (p := ⟨gb239, _, none⟩) zK118 _).trans (hHeld.2.2.1)))))), ((cell_far (p := ⟨gb239, _, none⟩) zK119 _).trans (((cell_far (p := ⟨gb239, _, none⟩) zK119 _).trans (((cell_far (p := ⟨gb239, _, none⟩) zK119 _).trans (hHeld.2.2.2.1)))))), ((cell_far (p := ⟨gb239, _, none⟩) zK120 _).trans (((cell_far (p := ⟨gb239, _, none⟩) zK120 _).trans (((cell_far (p := ⟨gb239, _, none⟩) zK120 _).trans (hHeld.2.2.2.2.1)))))), ((cell_far (p := ⟨gb239, _, none⟩) zK121 _).trans (((cell_far (p := ⟨gb239, _, none⟩) zK121 _).trans (((cell_far (p := ⟨gb239, _, none⟩) zK121 _).trans (hHeld.2.2.2.2.2.1)))))), ((cell_far (p := ⟨gb239, _, none⟩) zK122 _).trans (((cell_far (p := ⟨gb239, _, none⟩) zK122 _).trans (((cell_far (p := ⟨gb239, _, none⟩) zK122 _).trans (hHeld.2.2.2.2.2.2.1)))))), ((cell_far (p := ⟨gb239, _, none⟩) zK123 _).trans (((cell_far (p := ⟨gb239, _, none⟩) zK123 _).trans (((cell_far (p := ⟨gb239, _, none⟩) zK123 _).trans (hHeld.2.2.2.2.2.2.2))))))⟩ (fun hHeld => ?_)
 clear hK K
 refine one_ (i := 12) (N := none) b10A7 rfl rfl (one_of HT_.out zG96) (by decide) (fun K hK => ?_)
 have hs16 : w12.cell? ⟨gb240, 0, none⟩ = some (.string (⟨#[]⟩ : ByteArray)) := (zg BK240.out 0).trans rfl
 have hfs16 := zf BK240.out 0
 have hns16_0 := NB239_240.out
 have hms16_0 := NB240_239.out
 have hs17 : w12.cell? ⟨gb240, 1, none⟩ = some (.int .i64 0) := (zg BK240.out 1).trans rfl
 have hfs17 := zf BK240.out 1
 have hns17_0 := NB239_240.out
 have hms17_0 := NB240_239.out
 have hs18 : w12.cell? ⟨gb240, 2, none⟩ = some (.int .i64 0) := (zg BK240.out 2).trans rfl
 have hfs18 := zf BK240.out 2
 have hns18_0 := NB239_240.out
 have hms18_0 := NB240_239.out
 have hs19 : w12.cell? ⟨gb240, 3, none⟩ = some (.int .i64 0) := (zg BK240.out 3).trans rfl
 have hfs19 := zf BK240.out 3
 have hns19_0 := NB239_240.out
 have hms19_0 := NB240_239.out
 have hs20 : w12.cell? ⟨gb240, 4, none⟩ = some (.slice none 0 0) := (zg BK240.out 4).trans rfl
 have hfs20 := zf BK240.out 4
 have hns20_0 := NB239_240.out
 have hms20_0 := NB240_239.out
 refine skip_ (w1 := ?_) (by rfl) rfl ?_ ?_
 rotate_left
 ·go_simp
  rfl
 refine hK.out _ _ ⟨((cell_far (p := ⟨gb240, _, none⟩) zK124 _).trans (((cell_far (p := ⟨gb240, _, none⟩) zK124 _).trans (((cell_far (p := ⟨gb240, _, none⟩) zK124 _).trans (((cell_far (p := ⟨gb240, _, none⟩) zK124 _).trans (((cell_far (p := ⟨gb240, _, none⟩) zK124 _).trans (hHeld.1)))))))))), ((cell_far (p := ⟨gb240, _, none⟩) zK125 _).trans (((cell_far (p := ⟨gb240, _, none⟩) zK125 _).trans (((cell_far (p := ⟨gb240, _, none⟩) zK125 _).trans (((cell_far (p := ⟨gb240, _, none⟩) zK125 _).trans (((cell_far (p := ⟨gb240, _, none⟩) zK125 _).trans (hHeld.2.1)))))))))), ((cell_far (p := ⟨gb240, _, none⟩) zK126 _).trans (((cell_far (p := ⟨gb240, _, none⟩) zK126 _).trans (((cell_far (p := ⟨gb240, _, none⟩) zK126 _).trans (((cell_far (p := ⟨gb240, _, none⟩) zK126 _).trans (((cell_far (p := ⟨gb240, _, none⟩) zK126 _).trans (hHeld.2.2.1)))))))))), ((cell_far (p := ⟨gb240, _, none⟩) zK127 _).trans (((cell_far (p := ⟨gb240, _, none⟩) zK127 _).trans (((cell_far (p := ⟨gb240, _, none⟩) zK127 _).trans (((cell_far (p := ⟨gb240, _, none⟩) zK127 _).trans (((cell_far (p := ⟨gb240, _, none⟩) zK127 _).trans (hHeld.2.2.2.1)))))))))), ((cell_far (p := ⟨gb240, _, none⟩) zK128 _).trans (((cell_far (p := ⟨gb240, _, none⟩) zK128 _).trans (((cell_far (p := ⟨gb240, _, none⟩) zK128 _).trans (((cell_far (p := ⟨gb240, _, none⟩) zK128 _).trans (((cell_far (p := ⟨gb240, _, none⟩) zK128 _).trans (hHeld.2.2.2.2.1)))))))))), ((cell_far (p := ⟨gb240, _, none⟩) zK129 _).trans (((cell_far (p := ⟨gb240, _, none⟩) zK129 _).trans (((cell_far (p := ⟨gb240, _, none⟩) zK129 _).trans (((cell_far (p := ⟨gb240, _, none⟩) zK129 _).trans (((cell_far (p := ⟨gb240, _, none⟩) zK129 _).trans (hHeld.2.2.2.2.2.1)))))))))), ((cell_far (p := ⟨gb240, _, none⟩) zK130 _).trans (((cell_far (p := ⟨gb240, _, none⟩) zK130 _).trans (((cell_far (p := ⟨gb240, _, none⟩) zK130 _).trans (((cell_far (p := ⟨gb240, _, none⟩) zK130 _).trans (((cell_far (p := ⟨gb240, _, none⟩) zK130 _).trans (hHeld.2.2.2.2.2.2.1)))))))))), ((cell_far (p := ⟨gb240, _, none⟩) zK131 _).trans (((cell_far (p := ⟨gb240, _, none⟩) zK131 _).trans (((cell_far (p := ⟨gb240, _, none⟩) zK131 _).trans (((cell_far (p := ⟨gb240, _, none⟩) zK131 _).trans (((cell_far (p := ⟨gb240, _, none⟩) zK131 _).trans (hHeld.2.2.2.2.2.2.2))))))))))⟩ (fun hHeld => ?_)
 clear hK K
 refine pure_ (i := 13) (N := some 11) (v := ?_) (a' := ?_) b10A8 rfl rfl (any_of HT_.out zG96) (fun _ _ _ h => h) (Or.inl ⟨by rfl, ?_⟩) ?_ ?_
 rotate_left
 ·intro w'
  go_simp
  with_reducible rfl
 rotate_left
 ·simp only [Act.put, List.setIfInBounds_toArray, List.set_cons_zero, List.set_cons_succ, i64_w, i32_w]
  rfl
 refine pure_ (i := 14) (N := some 12) (v := ?_) (a' := ?_) b10A9 rfl rfl (any_of HT_.out zG96) (fun _ _ _ h => h) (Or.inl ⟨by rfl, ?_⟩) ?_ ?_
 rotate_left
 ·intro w'
  go_simp
  with_reducible rfl
 rotate_left
 ·simp only [Act.put, List.setIfInBounds_toArray, List.set_cons_zero, List.set_cons_succ, i64_w, i32_w]
  rfl
 refine done_ (done_of HT_.out zG96) ?_
 try go_wp2
 go_loopg [11, 12, 26] k (fun kq v11 v12 v26 w' => ∃ (x11_1 : Int) (x12_1 : Bool) (x26_1 : Int), v11 = .int .i64 x11_1 ∧ v12 = .bool x12_1 ∧ v26 = .int .i64 x26_1 ∧ Aside0 (impl_shiftCode.l0 kq l0 a3 x11_1 x12_1 l2 (l2.length : Int) x26_1 ((rd_T98 l0 (l2.length : Int)).f0) ((rd_T98 l0 (l2.length : Int)).f1) ((rd_T98 l0 (l2.length : Int)).f2) ((rd_T100 l1 a3).f0) ((rd_T100 l1 a3).f1) ((rd_T100 l1 a3).f2) ((rd_T100 l1 a3).f3) ((rd_T100 l1 a3).f4) = some r) ∧ Aside0 (kq ≤ k) ∧ Aside0 (w'.heap[gb239]? = some (.cells #[.int .i64 ((rd_T98 l0 (l2.length : Int)).f0), .int .i64 ((rd_T98 l0 (l2.length : Int)).f1), .string ((rd_T98 l0 (l2.length : Int)).f2)] 98 (0, 0))) ∧ Aside0 (w'.heap[gb240]? = some (.cells #[.string ((rd_T100 l1 a3).f0), .int .i64 ((rd_T100 l1 a3).f1), .int .i64 ((rd_T100 l1 a3).f2), .int .i64 ((rd_T100 l1 a3).f3), (.slice A238_4 ((rd_T100 l1 a3).f4).length c238_4)] 100 (0, 0))) ∧ Aside0 (Below w.heap.size w w'))
 case atStart => exact ⟨(0), (false), (0), zG95, zG95, zG95, H', ⟨Nat.le_refl _⟩, ⟨by (with_reducible repeat (first | refine zi ?_ _ | refine zk ?_ | refine zj ?_ _)); refine zaf ?_ NB239_240.out _; (with_reducible repeat (first | refine zi ?_ _ | refine zk ?_ | refine zj ?_ _)); refine zaf ?_ NB239_240.out _; (with_reducible repeat (first | refine zi ?_ _ | refine zk ?_ | refine zj ?_ _)); refine zaf ?_ NB239_240.out _; (with_reducible repeat (first | refine zi ?_ _ | refine zk ?_ | refine zj ?_ _)); refine zaf ?_ NB239_240.out _; (with_reducible repeat (first | refine zi ?_ _ | refine zk ?_ | refine zj ?_ _)); refine zaf ?_ NB239_240.out _; (with_reducible repeat (first | refine zi ?_ _ | refine zk ?_ | refine zj ?_ _)); refine zy (cs := #[.int .i64 ((rd_T98 l0 (l2.length : Int)).f0), .int .i64 ((rd_T98 l0 (l2.length : Int)).f1), .string (⟨#[]⟩ : ByteArray)]) ?_ 2 _ rfl; (with_reducible repeat (first | refine zi ?_ _ | refine zk ?_ | refine zj ?_ _)); refine zy (cs := #[.int .i64 ((rd_T98 l0 (l2.length : Int)).f0), .int .i64 0, .string (⟨#[]⟩ : ByteArray)]) ?_ 1 _ rfl; (with_reducible repeat (first | refine zi ?_ _ | refine zk ?_ | refine zj ?_ _)); refine zy (cs := #[.int .i64 0, .int .i64 0, .string (⟨#[]⟩ : ByteArray)]) ?_ 0 _ rfl; (with_reducible repeat (first | refine zi ?_ _ | refine zk ?_ | refine zj ?_ _)); exact BK239.out⟩, ⟨by (with_reducible repeat (first | refine zi ?_ _ | refine zk ?_ | refine zj ?_ _)); refine zy (cs := #[.string ((rd_T100 l1 a3).f0), .int .i64 ((rd_T100 l1 a3).f1), .int .i64 ((rd_T100 l1 a3).f2), .int .i64 ((rd_T100 l1 a3).f3), .slice none 0 0]) ?_ 4 _ rfl; (with_reducible repeat (first | refine zi ?_ _ | refine zk ?_ | refine zj ?_ _)); refine zy (cs := #[.string ((rd_T100 l1 a3).f0), .int .i64 ((rd_T100 l1 a3).f1), .int .i64 ((rd_T100 l1 a3).f2), .int .i64 0, .slice none 0 0]) ?_ 3 _ rfl; (with_reducible repeat (first | refine zi ?_ _ | refine zk ?_ | refine zj ?_ _)); refine zy (cs := #[.string ((rd_T100 l1 a3).f0), .int .i64 ((rd_T100 l1 a3).f1), .int .i64 0, .int .i64 0, .slice none 0 0]) ?_ 2 _ rfl; (with_reducible repeat (first | refine zi ?_ _ | refine zk ?_ | refine zj ?_ _)); refine zy (cs := #[.string ((rd_T100 l1 a3).f0), .int .i64 0, .int .i64 0, .int .i64 0, .slice none 0 0]) ?_ 1 _ rfl; (with_reducible repeat (first | refine zi ?_ _ | refine zk ?_ | refine zj ?_ _)); refine zy (cs := #[.string (⟨#[]⟩ : ByteArray), .int .i64 0, .int .i64 0, .int .i64 0, .slice none 0 0]) ?_ 0 _ rfl; (with_reducible repeat (first | refine zi ?_ _ | refine zk ?_ | refine zj ?_ _)); refine zaf ?_ NB240_239.out _; (with_reducible repeat (first | refine zi ?_ _ | refine zk ?_ | refine zj ?_ _)); refine zaf ?_ NB240_239.out _; (with_reducible repeat (first | refine zi ?_ _ | refine zk ?_ | refine zj ?_ _)); refine zaf ?_ NB240_239.out _; (with_reducible repeat (first | refine zi ?_ _ | refine zk ?_ | refine zj ?_ _)); exact BK240.out⟩, ⟨zH27⟩⟩
 case round =>
  clear H'
  try clear c1
  try clear c2
  try clear p2
  try clear q2
  try clear hx2
  try clear c5
  try clear c5b0
  try clear c5b1
  try clear c6
  try clear c6b0
  try clear c6b1
  try clear c7
  try clear c7b0
  try clear c8
  try clear c8b0
  try clear hx237_0
  try clear hx237_1
  try clear hx237_2
  try clear hx238_0
  try clear hx238_1
  try clear hx238_2
  try clear hx238_3
  try clear hx238_4
  try clear p237
  try clear p238
  try clear q237
  try clear q238
  obtain ⟨x11_1, x12_1, x26_1, rfl, rfl, rfl, HA, HK1, BK239, BK240, HB⟩ := hrel
  cases gk with
  | zero => exact absurd HA.out (by simp [impl_shiftCode.l0])
  | succ k1 =>
   have H := HA.out
   clear HA
   simp only [impl_shiftCode.l0] at H
   by_cases c21 : x26_1 < (l2.length : Int)
   rotate_left
   ·rw [if_neg c21] at H
    have c21b0 := decide_eq_false c21
    clear c21
    replace H := Option.bind_eq_some_iff.mp H
    obtain ⟨t245, A310, H⟩ := H
    replace H : (if t245 = true then (if x12_1 = true then (some 12) else (if (wrap64 ((wrap64 (x11_1 + ((rd_T98 l0 (l2.length : Int)).f1))) - ((rd_T98 l0 (l2.length : Int)).f0))) > ((rd_T100 l1 a3).f1) then (some 11) else (some 0))) else (some 13)) = some r := H
    have A31 := zb A310
    clear A310
    by_cases c32 : t245 = true
    rotate_left
    ·replace c32 := Bool.eq_false_iff.mpr c32
     subst c32
     have H1 : (some 13) = some r := by rw [if_neg (show ¬ (false = true) by decide)] at H; exact H
     clear H
     have H := H1
     clear H1
     obtain rfl := Option.some.inj H
     have hnb44 := NB240_239.out
     have hnc44 := NB239_240.out
     have hcz45_0 : wr.cell? ⟨gb240, 0, none⟩ = some (.string ((rd_T100 l1 a3).f0)) := (zg BK240.out 0).trans rfl
     have hcz45_1 : wr.cell? ⟨gb240, 1, none⟩ = some (.int .i64 ((rd_T100 l1 a3).f1)) := (zg BK240.out 1).trans rfl
     have hcz45_2 : wr.cell? ⟨gb240, 2, none⟩ = some (.int .i64 ((rd_T100 l1 a3).f2)) := (zg BK240.out 2).trans rfl
     have hcz45_3 : wr.cell? ⟨gb240, 3, none⟩ = some (.int .i64 ((rd_T100 l1 a3).f3)) := (zg BK240.out 3).trans rfl
     have hcz45_4 : wr.cell? ⟨gb240, 4, none⟩ = some (.slice A238_4 ((rd_T100 l1 a3).f4).length c238_4) := (zg BK240.out 4).trans rfl
     have hfz45_0 := zf BK240.out 0
     have hfz45_1 := zf BK240.out 1
     have hfz45_2 := zf BK240.out 2
     have hfz45_3 := zf BK240.out 3
     have hfz45_4 := zf BK240.out 4
     have hcz46_0 : wr.cell? ⟨gb239, 0, none⟩ = some (.int .i64 ((rd_T98 l0 (l2.length : Int)).f0)) := (zg BK239.out 0).trans rfl
     have hcz46_1 : wr.cell? ⟨gb239, 1, none⟩ = some (.int .i64 ((rd_T98 l0 (l2.length : Int)).f1)) := (zg BK239.out 1).trans rfl
     have hcz46_2 : wr.cell? ⟨gb239, 2, none⟩ = some (.string ((rd_T98 l0 (l2.length : Int)).f2)) := (zg BK239.out 2).trans rfl
     have hfz46_0 := zf BK239.out 0
     have hfz46_1 := zf BK239.out 1
     have hfz46_2 := zf BK239.out 2
     go_wp2_with (first | ((with_reducible refine gate_callee (f := 81) rfl ?_); refine goesL_ (some 67) rfl rfl Try.func81 zG96 rfl #[.slice A238_4 ((rd_T100 l1 a3).f4).length c238_4, .string ((rd_T98 l0 (l2.length : Int)).f2)] rfl zG65 ?_; (with_reducible refine (slices_Contains_string_string.calls k1 _ _ ((rd_T100 l1 a3).f4) ((rd_T98 l0 (l2.length : Int)).f2) false _ ?side1 ?side2 A31.out).mono ?_); (case side1 => exact zH41); (case side2 => exact HC238_4.out); rintro e w' ⟨rfl, ⟨nd, rfl⟩⟩; refine ⟨_, rfl, ?_⟩))
     go_ret
     exact zH13
    subst c32
    have H1 : (if x12_1 = true then (some 12) else (if (wrap64 ((wrap64 (x11_1 + ((rd_T98 l0 (l2.length : Int)).f1))) - ((rd_T98 l0 (l2.length : Int)).f0))) > ((rd_T100 l1 a3).f1) then (some 11) else (some 0))) = some r := by rw [if_pos rfl] at H; exact H
    clear H
    have H := H1
    clear H1
    by_cases c33 : x12_1 = true
    ·subst c33
     have H1 : (some 12) = some r := by rw [if_pos rfl] at H; exact H
     clear H
     have H := H1
     clear H1
     obtain rfl := Option.some.inj H
     have hnb34 := NB240_239.out
     have hnc34 := NB239_240.out
     have hcz35_0 : wr.cell? ⟨gb240, 0, none⟩ = some (.string ((rd_T100 l1 a3).f0)) := (zg BK240.out 0).trans rfl
     have hcz35_1 : wr.cell? ⟨gb240, 1, none⟩ = some (.int .i64 ((rd_T100 l1 a3).f1)) := (zg BK240.out 1).trans rfl
     have hcz35_2 : wr.cell? ⟨gb240, 2, none⟩ = some (.int .i64 ((rd_T100 l1 a3).f2)) := (zg BK240.out 2).trans rfl
     have hcz35_3 : wr.cell? ⟨gb240, 3, none⟩ = some (.int .i64 ((rd_T100 l1 a3).f3)) := (zg BK240.out 3).trans rfl
     have hcz35_4 : wr.cell? ⟨gb240, 4, none⟩ = some (.slice A238_4 ((rd_T100 l1 a3).f4).length c238_4) := (zg BK240.out 4).trans rfl
     have hfz35_0 := zf BK240.out 0
     have hfz35_1 := zf BK240.out 1
     have hfz35_2 := zf BK240.out 2
     have hfz35_3 := zf BK240.out 3
     have hfz35_4 := zf BK240.out 4
     have hcz36_0 : wr.cell? ⟨gb239, 0, none⟩ = some (.int .i64 ((rd_T98 l0 (l2.length : Int)).f0)) := (zg BK239.out 0).trans rfl
     have hcz36_1 : wr.cell? ⟨gb239, 1, none⟩ = some (.int .i64 ((rd_T98 l0 (l2.length : Int)).f1)) := (zg BK239.out 1).trans rfl
     have hcz36_2 : wr.cell? ⟨gb239, 2, none⟩ = some (.string ((rd_T98 l0 (l2.length : Int)).f2)) := (zg BK239.out 2).trans rfl
     have hfz36_0 := zf BK239.out 0
     have hfz36_1 := zf BK239.out 1
     have hfz36_2 := zf BK239.out 2
     go_wp2_with (first | ((with_reducible refine gate_callee (f := 81) rfl ?_); refine goesL_ (some 67) rfl rfl Try.func81 zG96 rfl #[.slice A238_4 ((rd_T100 l1 a3).f4).length c238_4, .string ((rd_T98 l0 (l2.length : Int)).f2)] rfl zG65 ?_; (with_reducible refine (slices_Contains_string_string.calls k1 _ _ ((rd_T100 l1 a3).f4) ((rd_T98 l0 (l2.length : Int)).f2) true _ ?side1 ?side2 A31.out).mono ?_); (case side1 => exact zH41); (case side2 => exact HC238_4.out); rintro e w' ⟨rfl, ⟨nd, rfl⟩⟩; refine ⟨_, rfl, ?_⟩))
     go_ret
     exact zH13
    replace c33 := Bool.eq_false_iff.mpr c33
    subst c33
    have H1 : (if (wrap64 ((wrap64 (x11_1 + ((rd_T98 l0 (l2.length : Int)).f1))) - ((rd_T98 l0 (l2.length : Int)).f0))) > ((rd_T100 l1 a3).f1) then (some 11) else (some 0)) = some r := by rw [if_neg (show ¬ (false = true) by decide)] at H; exact H
    clear H
    have H := H1
    clear H1
    by_cases c37 : (wrap64 ((wrap64 (x11_1 + ((rd_T98 l0 (l2.length : Int)).f1))) - ((rd_T98 l0 (l2.length : Int)).f0))) > ((rd_T100 l1 a3).f1)
    rotate_left
    ·rw [if_neg c37] at H
     have c37b0 : decide (((rd_T100 l1 a3).f1) < (wrap64 ((wrap64 (x11_1 + ((rd_T98 l0 (l2.length : Int)).f1))) - ((rd_T98 l0 (l2.length : Int)).f0)))) = false := decide_eq_false c37
     clear c37
     obtain rfl := Option.some.inj H
     have hnb41 := NB240_239.out
     have hnc41 := NB239_240.out
     have hcz42_0 : wr.cell? ⟨gb240, 0, none⟩ = some (.string ((rd_T100 l1 a3).f0)) := (zg BK240.out 0).trans rfl
     have hcz42_1 : wr.cell? ⟨gb240, 1, none⟩ = some (.int .i64 ((rd_T100 l1 a3).f1)) := (zg BK240.out 1).trans rfl
     have hcz42_2 : wr.cell? ⟨gb240, 2, none⟩ = some (.int .i64 ((rd_T100 l1 a3).f2)) := (zg BK240.out 2).trans rfl
     have hcz42_3 : wr.cell? ⟨gb240, 3, none⟩ = some (.int .i64 ((rd_T100 l1 a3).f3)) := (zg BK240.out 3).trans rfl
     have hcz42_4 : wr.cell? ⟨gb240, 4, none⟩ = some (.slice A238_4 ((rd_T100 l1 a3).f4).length c238_4) := (zg BK240.out 4).trans rfl
     have hfz42_0 := zf BK240.out 0
     have hfz42_1 := zf BK240.out 1
     have hfz42_2 := zf BK240.out 2
     have hfz42_3 := zf BK240.out 3
     have hfz42_4 := zf BK240.out 4
     have hcz43_0 : wr.cell? ⟨gb239, 0, none⟩ = some (.int .i64 ((rd_T98 l0 (l2.length : Int)).f0)) := (zg BK239.out 0).trans rfl
     have hcz43_1 : wr.cell? ⟨gb239, 1, none⟩ = some (.int .i64 ((rd_T98 l0 (l2.length : Int)).f1)) := (zg BK239.out 1).trans rfl
     have hcz43_2 : wr.cell? ⟨gb239, 2, none⟩ = some (.string ((rd_T98 l0 (l2.length : Int)).f2)) := (zg BK239.out 2).trans rfl
     have hfz43_0 := zf BK239.out 0
     have hfz43_1 := zf BK239.out 1
     have hfz43_2 := zf BK239.out 2
     go_wp2_with (first | ((with_reducible refine gate_callee (f := 81) rfl ?_); refine goesL_ (some 67) rfl rfl Try.func81 zG96 rfl #[.slice A238_4 ((rd_T100 l1 a3).f4).length c238_4, .string ((rd_T98 l0 (l2.length : Int)).f2)] rfl zG65 ?_; (with_reducible refine (slices_Contains_string_string.calls k1 _ _ ((rd_T100 l1 a3).f4) ((rd_T98 l0 (l2.length : Int)).f2) true _ ?side1 ?side2 A31.out).mono ?_); (case side1 => exact zH41); (case side2 => exact HC238_4.out); rintro e w' ⟨rfl, ⟨nd, rfl⟩⟩; refine ⟨_, rfl, ?_⟩))
     go_ret
     exact zH13
    rw [if_pos c37] at H
    have c37b0 : decide (((rd_T100 l1 a3).f1) < (wrap64 ((wrap64 (x11_1 + ((rd_T98 l0 (l2.length : Int)).f1))) - ((rd_T98 l0 (l2.length : Int)).f0)))) = true := decide_eq_true c37
    clear c37
    obtain rfl := Option.some.inj H
    have hnb38 := NB240_239.out
    have hnc38 := NB239_240.out
    have hcz39_0 : wr.cell? ⟨gb240, 0, none⟩ = some (.string ((rd_T100 l1 a3).f0)) := (zg BK240.out 0).trans rfl
    have hcz39_1 : wr.cell? ⟨gb240, 1, none⟩ = some (.int .i64 ((rd_T100 l1 a3).f1)) := (zg BK240.out 1).trans rfl
    have hcz39_2 : wr.cell? ⟨gb240, 2, none⟩ = some (.int .i64 ((rd_T100 l1 a3).f2)) := (zg BK240.out 2).trans rfl
    have hcz39_3 : wr.cell? ⟨gb240, 3, none⟩ = some (.int .i64 ((rd_T100 l1 a3).f3)) := (zg BK240.out 3).trans rfl
    have hcz39_4 : wr.cell? ⟨gb240, 4, none⟩ = some (.slice A238_4 ((rd_T100 l1 a3).f4).length c238_4) := (zg BK240.out 4).trans rfl
    have hfz39_0 := zf BK240.out 0
    have hfz39_1 := zf BK240.out 1
    have hfz39_2 := zf BK240.out 2
    have hfz39_3 := zf BK240.out 3
    have hfz39_4 := zf BK240.out 4
    have hcz40_0 : wr.cell? ⟨gb239, 0, none⟩ = some (.int .i64 ((rd_T98 l0 (l2.length : Int)).f0)) := (zg BK239.out 0).trans rfl
    have hcz40_1 : wr.cell? ⟨gb239, 1, none⟩ = some (.int .i64 ((rd_T98 l0 (l2.length : Int)).f1)) := (zg BK239.out 1).trans rfl
    have hcz40_2 : wr.cell? ⟨gb239, 2, none⟩ = some (.string ((rd_T98 l0 (l2.length : Int)).f2)) := (zg BK239.out 2).trans rfl
    have hfz40_0 := zf BK239.out 0
    have hfz40_1 := zf BK239.out 1
    have hfz40_2 := zf BK239.out 2
    go_wp2_with (first | ((with_reducible refine gate_callee (f := 81) rfl ?_); refine goesL_ (some 67) rfl rfl Try.func81 zG96 rfl #[.slice A238_4 ((rd_T100 l1 a3).f4).length c238_4, .string ((rd_T98 l0 (l2.length : Int)).f2)] rfl zG65 ?_; (with_reducible refine (slices_Contains_string_string.calls k1 _ _ ((rd_T100 l1 a3).f4) ((rd_T98 l0 (l2.length : Int)).f2) true _ ?side1 ?side2 A31.out).mono ?_); (case side1 => exact zH41); (case side2 => exact HC238_4.out); rintro e w' ⟨rfl, ⟨nd, rfl⟩⟩; refine ⟨_, rfl, ?_⟩))
    go_ret
    exact zH13
   rw [if_pos c21] at H
   have c21b0 := decide_eq_true c21
   clear c21
   by_cases c22 : 0 ≤ x26_1
   rotate_left
   ·rw [if_neg c22] at H
    exact absurd H (by simp)
   rw [if_pos c22] at H
   have c22b0 := decide_eq_true c22
   clear c22
   by_cases c23 : x26_1 < (l2.length : Int)
   rotate_left
   ·rw [if_neg c23] at H
    exact absurd H (by simp)
   rw [if_pos c23] at H
   have c23b0 := decide_eq_true c23
   clear c23
   by_cases c24 : (rd l2 x26_1) = a3
   rotate_left
   ·rw [if_neg c24] at H
    have c24b0 : ((rd l2 x26_1) == a3) = false := beq_eq_false_iff_ne.mpr c24
    have c24b1 : ((rd l2 x26_1) != a3) = true := bne_iff_ne.mpr c24
    have H' := zb H
    clear H
    have p241 : 0 ≤ (x26_1 : Int) := zO
    have q241 : x26_1 < (l2.length : Int) := zO
    obtain ⟨ad241, e241, hx241_0⟩ := zaj HR2.out x26_1 p241 q241
    cases e241
    replace hx241_0 := (HB.out.cell (za w _ hx241_0)).trans hx241_0
    replace p241 := eq_true p241
    replace q241 := eq_true q241
    go_wp2
    go_roundg k1
    case measure => have := HK1.out; omega
    case rel => exact ⟨(x11_1), (x12_1), (wrap64 (x26_1 + 1)), zG95, zG95, zG95, H', ⟨zH104⟩, ⟨zH81⟩, ⟨zH82⟩, ⟨zH27⟩⟩
   rw [if_pos c24] at H
   have c24b0 : ((rd l2 x26_1) == a3) = true := beq_iff_eq.mpr c24
   have c24b1 : ((rd l2 x26_1) != a3) = false := bne_eq_false_iff_eq.mpr c24
   clear c24
   by_cases c25 : x26_1 < (l0.length : Int)
   rotate_left
   ·rw [if_neg c25] at H
    exact absurd H (by simp)
   rw [if_pos c25] at H
   have c25b0 := decide_eq_true c25
   clear c25
   by_cases c26 : x12_1 = true
   ·subst c26
    have H1 : (impl_shiftCode.l0 k1 l0 a3 (wrap64 (x11_1 + (wrap64 (((rd_T98 l0 x26_1).f1) - ((rd_T98 l0 x26_1).f0))))) true l2 (l2.length : Int) (wrap64 (x26_1 + 1)) ((rd_T98 l0 (l2.length : Int)).f0) ((rd_T98 l0 (l2.length : Int)).f1) ((rd_T98 l0 (l2.length : Int)).f2) ((rd_T100 l1 a3).f0) ((rd_T100 l1 a3).f1) ((rd_T100 l1 a3).f2) ((rd_T100 l1 a3).f3) ((rd_T100 l1 a3).f4)) = some r := by rw [if_pos rfl] at H; exact H
    clear H
    have H := H1
    clear H1
    have H' := zb H
    clear H
    have p241 : 0 ≤ (x26_1 : Int) := zO
    have q241 : x26_1 < (l2.length : Int) := zO
    obtain ⟨ad241, e241, hx241_0⟩ := zaj HR2.out x26_1 p241 q241
    cases e241
    replace hx241_0 := (HB.out.cell (za w _ hx241_0)).trans hx241_0
    replace p241 := eq_true p241
    replace q241 := eq_true q241
    try go_wp2
    have n0_ := zb (zk BK239.out)
    have n1_ := zb (zk BK240.out)
    have n2_ := zb (zd HB.out)
    clear BK239
    clear BK240
    clear HB
    have BK239 := n0_
    have BK240 := n1_
    have HB := n2_
    clear n0_ n1_ n2_
    have p242 : 0 ≤ (x26_1 : Int) := zO
    have q242 : x26_1 < (l0.length : Int) := zO
    obtain ⟨ad242, e242, hx242_0, hx242_1, hx242_2⟩ := at_T98 HR0.out x26_1 p242 q242
    have hw242_2 := hx242_2
    have hw242_1 := hx242_1
    have hw242_0 := hx242_0
    obtain rfl : ad237 = ad242 := (by injection e242)
    replace hx242_0 := (HB.out.cell (za w _ hx242_0)).trans hx242_0
    replace hx242_1 := (HB.out.cell (za w _ hx242_1)).trans hx242_1
    replace hx242_2 := (HB.out.cell (za w _ hx242_2)).trans hx242_2
    replace p242 := eq_true p242
    replace q242 := eq_true q242
    have p243 : 0 ≤ (x26_1 : Int) := zO
    have q243 : x26_1 < (l0.length : Int) := zO
    obtain ⟨ad243, e243, hx243_0, hx243_1, hx243_2⟩ := at_T98 HR0.out x26_1 p243 q243
    have hw243_2 := hx243_2
    have hw243_1 := hx243_1
    have hw243_0 := hx243_0
    obtain rfl : ad237 = ad243 := (by injection e243)
    replace hx243_0 := (HB.out.cell (za w _ hx243_0)).trans hx243_0
    replace hx243_1 := (HB.out.cell (za w _ hx243_1)).trans hx243_1
    replace hx243_2 := (HB.out.cell (za w _ hx243_2)).trans hx243_2
    replace p243 := eq_true p243
    replace q243 := eq_true q243
    refine start_ (n := 14) (S := fun w' => w'.cell? (ad237.add ((x26_1).toNat * 3)) = some (.int .i64 ((rd_T98 l0 x26_1).f0)) ∧ w'.cell? ⟨(ad237.add ((x26_1).toNat * 3)).block, (ad237.add ((x26_1).toNat * 3)).off + 1, none⟩ = some (.int .i64 ((rd_T98 l0 x26_1).f1)) ∧ w'.cell? ⟨(ad237.add ((x26_1).toNat * 3)).block, (ad237.add ((x26_1).toNat * 3)).off + 2, none⟩ = some (.string ((rd_T98 l0 x26_1).f2)) ∧ w'.cell? (ad237.add ((x26_1).toNat * 3)) = some (.int .i64 ((rd_T98 l0 x26_1).f0)) ∧ w'.cell? ⟨(ad237.add ((x26_1).toNat * 3)).block, (ad237.add ((x26_1).toNat * 3)).off + 1, none⟩ = some (.int .i64 ((rd_T98 l0 x26_1).f1)) ∧ w'.cell? ⟨(ad237.add ((x26_1).toNat * 3)).block, (ad237.add ((x26_1).toNat * 3)).off + 2, none⟩ = some (.string ((rd_T98 l0 x26_1).f2))) (ds := []) b10A13 zG96 rfl rfl ⟨((HB.out.cell (za w _ hw242_0)).trans hw242_0), ((HB.out.cell (za w _ hw242_1)).trans hw242_1), ((HB.out.cell (za w _ hw242_2)).trans hw242_2), ((HB.out.cell (za w _ hw243_0)).trans hw243_0), ((HB.out.cell (za w _ hw243_1)).trans hw243_1), ((HB.out.cell (za w _ hw243_2)).trans hw243_2)⟩ (fun hHeld => ?_); refine with_tabW impl_shiftCode.tab6 impl_shiftCode.bits6 (fun HT_ HW_ => ?_)
    generalize wr.drew = w27 at BK239 BK240 HB hx242_0 hx242_1 hx242_2 hx243_0 hx243_1 hx243_2 hHeld ⊢
    refine pure_ (i := 0) (N := some 34) (v := ?_) (a' := ?_) b10A14 rfl rfl (any_of HT_.out zG96) (fun _ _ _ h => h) (Or.inl ⟨by rfl, ?_⟩) ?_ ?_
    rotate_left
    ·intro w'
     go_simp
     with_reducible rfl
    rotate_left
    ·simp only [Act.put, List.setIfInBounds_toArray, List.set_cons_zero, List.set_cons_succ, i64_w, i32_w]
     rfl
    refine pure_ (i := 1) (N := some 35) (v := ?_) (a' := ?_) b10A15 rfl rfl (any_of HT_.out zG96) (fun _ _ _ h => h) (Or.inl ⟨by rfl, ?_⟩) ?_ ?_
    rotate_left
    ·intro w'
     go_simp
     with_reducible rfl
    rotate_left
    ·simp only [Act.put, List.setIfInBounds_toArray, List.set_cons_zero, List.set_cons_succ, i64_w, i32_w]
     rfl
    refine pure_ (i := 2) (N := some 36) (v := ?_) (a' := ?_) b10A16 rfl rfl (any_of HT_.out zG96) (fun _ _ _ h => h) (Or.inl ⟨by rfl, ?_⟩) ?_ ?_
    rotate_left
    ·intro w'
     go_simp
     with_reducible rfl
    rotate_left
    ·simp only [Act.put, List.setIfInBounds_toArray, List.set_cons_zero, List.set_cons_succ, i64_w, i32_w]
     rfl
    refine pure_ (i := 3) (N := some 37) (v := ?_) (a' := ?_) b10A17 rfl rfl (any_of HT_.out zG96) (fun _ _ _ h => h) (Or.inl ⟨by rfl, ?_⟩) ?_ ?_
    rotate_left
    ·intro w'
     go_simp
     with_reducible rfl
    rotate_left
    ·simp only [Act.put, List.setIfInBounds_toArray, List.set_cons_zero, List.set_cons_succ, i64_w, i32_w]
     rfl
    refine pure_ (i := 4) (N := some 38) (v := ?_) (a' := ?_) b10A18 rfl rfl (any_of HT_.out zG96) (fun _ _ _ h => h) (Or.inl ⟨by rfl, ?_⟩) ?_ ?_
    rotate_left
    ·intro w'
     go_simp
     with_reducible rfl
    rotate_left
    ·simp only [Act.put, List.setIfInBounds_toArray, List.set_cons_zero, List.set_cons_succ, i64_w, i32_w]
     rfl
    refine pure_ (i := 6) (N := some 40) (v := ?_) (a' := ?_) b10A19 rfl rfl (any_of HT_.out zG96) (fun _ _ _ h => h) (Or.inl ⟨by rfl, ?_⟩) ?_ ?_
    rotate_left
    ·intro w'
     go_simp
     with_reducible rfl
    rotate_left
    ·simp only [Act.put, List.setIfInBounds_toArray, List.set_cons_zero, List.set_cons_succ, i64_w, i32_w]
     rfl
    refine pure_ (i := 7) (N := some 41) (v := ?_) (a' := ?_) b10A20 rfl rfl (any_of HT_.out zG96) (fun _ _ _ h => h) (Or.inl ⟨by rfl, ?_⟩) ?_ ?_
    rotate_left
    ·intro w'
     go_simp
     with_reducible rfl
    rotate_left
    ·simp only [Act.put, List.setIfInBounds_toArray, List.set_cons_zero, List.set_cons_succ, i64_w, i32_w]
     rfl
    refine pure_ (i := 8) (N := some 42) (v := ?_) (a' := ?_) b10A21 rfl rfl (any_of HT_.out zG96) (fun _ _ _ h => h) (Or.inl ⟨by rfl, ?_⟩) ?_ ?_
    rotate_left
    ·intro w'
     go_simp
     with_reducible rfl
    rotate_left
    ·simp only [Act.put, List.setIfInBounds_toArray, List.set_cons_zero, List.set_cons_succ, i64_w, i32_w]
     rfl
    refine pure_ (i := 9) (N := some 43) (v := ?_) (a' := ?_) b10A22 rfl rfl (any_of HT_.out zG96) (fun _ _ _ h => h) (Or.inl ⟨by rfl, ?_⟩) ?_ ?_
    rotate_left
    ·intro w'
     go_simp
     with_reducible rfl
    rotate_left
    ·simp only [Act.put, List.setIfInBounds_toArray, List.set_cons_zero, List.set_cons_succ, i64_w, i32_w]
     rfl
    refine take_ (i := 5) (N := some 39) (v := ?_) (a' := ?_) b10A23 rfl rfl (take_ofW HT_.out HW_.out zG96) (fun _ _ _ h => h) (Or.inl ⟨by rfl, ?_⟩) hHeld ?_ ?_
    rotate_left
    ·rintro w' ⟨s0, s1, s2, s3, s4, s5⟩
     go_simp
     with_reducible rfl
    rotate_left
    ·simp only [Act.put, List.setIfInBounds_toArray, List.set_cons_zero, List.set_cons_succ, i64_w, i32_w]
     rfl
    refine take_ (i := 10) (N := some 44) (v := ?_) (a' := ?_) b10A24 rfl rfl (take_ofW HT_.out HW_.out zG96) (fun _ _ _ h => h) (Or.inl ⟨by rfl, ?_⟩) hHeld ?_ ?_
    rotate_left
    ·rintro w' ⟨s0, s1, s2, s3, s4, s5⟩
     go_simp
     with_reducible rfl
    rotate_left
    ·simp only [Act.put, List.setIfInBounds_toArray, List.set_cons_zero, List.set_cons_succ, i64_w, i32_w]
     rfl
    refine pure_ (i := 11) (N := some 45) (v := ?_) (a' := ?_) b10A25 rfl rfl (any_of HT_.out zG96) (fun _ _ _ h => h) (Or.inl ⟨by rfl, ?_⟩) ?_ ?_
    rotate_left
    ·intro w'
     go_simp
     with_reducible rfl
    rotate_left
    ·simp only [Act.put, List.setIfInBounds_toArray, List.set_cons_zero, List.set_cons_succ, i64_w, i32_w]
     rfl
    refine pure_ (i := 12) (N := some 46) (v := ?_) (a' := ?_) b10A26 rfl rfl (any_of HT_.out zG96) (fun _ _ _ h => h) (Or.inl ⟨by rfl, ?_⟩) ?_ ?_
    rotate_left
    ·intro w'
     go_simp
     with_reducible rfl
    rotate_left
    ·simp only [Act.put, List.setIfInBounds_toArray, List.set_cons_zero, List.set_cons_succ, i64_w, i32_w]
     rfl
    refine pure_ (i := 13) (N := some 11) (v := ?_) (a' := ?_) b10A27 rfl rfl (any_of HT_.out zG96) (fun _ _ _ h => h) (Or.inl ⟨by rfl, ?_⟩) ?_ ?_
    rotate_left
    ·intro w'
     go_simp
     with_reducible rfl
    rotate_left
    ·simp only [Act.put, List.setIfInBounds_toArray, List.set_cons_zero, List.set_cons_succ, i64_w, i32_w]
     rfl
    refine done_ (done_of HT_.out zG96) ?_
    try go_wp2
    have n0_ := zb (zk BK239.out)
    have n1_ := zb (zk BK240.out)
    have n2_ := zb (zd HB.out)
    clear BK239
    clear BK240
    clear HB
    have BK239 := n0_
    have BK240 := n1_
    have HB := n2_
    clear n0_ n1_ n2_
    refine start_ (n := 15) (S := fun w' => True) (ds := []) b10A1 zG96 rfl rfl trivial (fun hHeld => ?_); refine with_tabW impl_shiftCode.tab7 impl_shiftCode.bits7 (fun HT_ HW_ => ?_)
    generalize w27.drew = w28 at BK239 BK240 HB hHeld ⊢
    refine pure_ (i := 0) (N := some 47) (v := ?_) (a' := ?_) b10A2 rfl rfl (any_of HT_.out zG96) (fun _ _ _ h => h) (Or.inl ⟨by rfl, ?_⟩) ?_ ?_
    rotate_left
    ·intro w'
     go_simp
     with_reducible rfl
    rotate_left
    ·simp only [Act.put, List.setIfInBounds_toArray, List.set_cons_zero, List.set_cons_succ, i64_w, i32_w]
     rfl
    refine pure_ (i := 1) (N := some 48) (v := ?_) (a' := ?_) b10A3 rfl rfl (any_of HT_.out zG96) (fun _ _ _ h => h) (Or.inl ⟨by rfl, ?_⟩) ?_ ?_
    rotate_left
    ·intro w'
     go_simp
     with_reducible rfl
    rotate_left
    ·simp only [Act.put, List.setIfInBounds_toArray, List.set_cons_zero, List.set_cons_succ, i64_w, i32_w]
     rfl
    refine pure_ (i := 2) (N := some 49) (v := undef) (a' := ?_) b10A4 rfl rfl (any_of HT_.out zG96) (fun _ _ _ h => h) (Or.inr ⟨by rfl, rfl⟩) ?_ ?_
    rotate_left
    ·simp only [Act.put, List.setIfInBounds_toArray, List.set_cons_zero, List.set_cons_succ, i64_w, i32_w]
     rfl
    refine pure_ (i := 3) (N := some 50) (v := undef) (a' := ?_) b10A10 rfl rfl (any_of HT_.out zG96) (fun _ _ _ h => h) (Or.inr ⟨by rfl, rfl⟩) ?_ ?_
    rotate_left
    ·simp only [Act.put, List.setIfInBounds_toArray, List.set_cons_zero, List.set_cons_succ, i64_w, i32_w]
     rfl
    refine pure_ (i := 4) (N := some 51) (v := undef) (a' := ?_) #[true, true, true, true, true, false, false, false, false, false, false, false, false, false, false] rfl rfl (any_of HT_.out zG96) (fun _ _ _ h => h) (Or.inr ⟨by rfl, rfl⟩) ?_ ?_
    rotate_left
    ·simp only [Act.put, List.setIfInBounds_toArray, List.set_cons_zero, List.set_cons_succ, i64_w, i32_w]
     rfl
    refine pure_ (i := 5) (N := some 52) (v := undef) (a' := ?_) #[true, true, true, true, true, true, false, false, false, false, false, false, false, false, false] rfl rfl (any_of HT_.out zG96) (fun _ _ _ h => h) (Or.inr ⟨by rfl, rfl⟩) ?_ ?_
    rotate_left
    ·simp only [Act.put, List.setIfInBounds_toArray, List.set_cons_zero, List.set_cons_succ, i64_w, i32_w]
     rfl
    refine pure_ (i := 6) (N := some 53) (v := undef) (a' := ?_) #[true, true, true, true, true, true, true, false, false, false, false, false, false, false, false] rfl rfl (any_of HT_.out zG96) (fun _ _ _ h => h) (Or.inr ⟨by rfl, rfl⟩) ?_ ?_
    rotate_left
    ·simp only [Act.put, List.setIfInBounds_toArray, List.set_cons_zero, List.set_cons_succ, i64_w, i32_w]
     rfl
    refine pure_ (i := 7) (N := some 54) (v := undef) (a' := ?_) b10A11 rfl rfl (any_of HT_.out zG96) (fun _ _ _ h => h) (Or.inr ⟨by rfl, rfl⟩) ?_ ?_
    rotate_left
    ·simp only [Act.put, List.setIfInBounds_toArray, List.set_cons_zero, List.set_cons_succ, i64_w, i32_w]
     rfl
    refine pure_ (i := 8) (N := some 55) (v := undef) (a' := ?_) b10A12 rfl rfl (any_of HT_.out zG96) (fun _ _ _ h => h) (Or.inr ⟨by rfl, rfl⟩) ?_ ?_
    rotate_left
    ·simp only [Act.put, List.setIfInBounds_toArray, List.set_cons_zero, List.set_cons_succ, i64_w, i32_w]
     rfl
    refine pure_ (i := 9) (N := some 56) (v := undef) (a' := ?_) b10A5 rfl rfl (any_of HT_.out zG96) (fun _ _ _ h => h) (Or.inr ⟨by rfl, rfl⟩) ?_ ?_
    rotate_left
    ·simp only [Act.put, List.setIfInBounds_toArray, List.set_cons_zero, List.set_cons_succ, i64_w, i32_w]
     rfl
    refine pure_ (i := 10) (N := some 57) (v := undef) (a' := ?_) b10A0 rfl rfl (any_of HT_.out zG96) (fun _ _ _ h => h) (Or.inr ⟨by rfl, rfl⟩) ?_ ?_
    rotate_left
    ·simp only [Act.put, List.setIfInBounds_toArray, List.set_cons_zero, List.set_cons_succ, i64_w, i32_w]
     rfl
    refine pure_ (i := 11) (N := some 58) (v := undef) (a' := ?_) b10A6 rfl rfl (any_of HT_.out zG96) (fun _ _ _ h => h) (Or.inr ⟨by rfl, rfl⟩) ?_ ?_
    rotate_left
    ·simp only [Act.put, List.setIfInBounds_toArray, List.set_cons_zero, List.set_cons_succ, i64_w, i32_w]
     rfl
    refine pure_ (i := 12) (N := some 59) (v := undef) (a' := ?_) b10A7 rfl rfl (any_of HT_.out zG96) (fun _ _ _ h => h) (Or.inr ⟨by rfl, rfl⟩) ?_ ?_
    rotate_left
    ·simp only [Act.put, List.setIfInBounds_toArray, List.set_cons_zero, List.set_cons_succ, i64_w, i32_w]
     rfl
    refine pure_ (i := 13) (N := some 60) (v := ?_) (a' := ?_) b10A8 rfl rfl (any_of HT_.out zG96) (fun _ _ _ h => h) (Or.inl ⟨by rfl, ?_⟩) ?_ ?_
    rotate_left
    ·intro w'
     go_simp
     with_reducible rfl
    rotate_left
    ·simp only [Act.put, List.setIfInBounds_toArray, List.set_cons_zero, List.set_cons_succ, i64_w, i32_w]
     rfl
    refine pure_ (i := 14) (N := some 12) (v := ?_) (a' := ?_) b10A9 rfl rfl (any_of HT_.out zG96) (fun _ _ _ h => h) (Or.inl ⟨by rfl, ?_⟩) ?_ ?_
    rotate_left
    ·intro w'
     go_simp
     with_reducible rfl
    rotate_left
    ·simp only [Act.put, List.setIfInBounds_toArray, List.set_cons_zero, List.set_cons_succ, i64_w, i32_w]
     rfl
    refine done_ (done_of HT_.out zG96) ?_
    try go_wp2
    go_roundg k1
    case measure => have := HK1.out; omega
    case rel => exact ⟨(wrap64 (x11_1 + (wrap64 (((rd_T98 l0 x26_1).f1) - ((rd_T98 l0 x26_1).f0))))), (true), (wrap64 (x26_1 + 1)), zG95, zG95, zG95, H', ⟨zH104⟩, ⟨zH81⟩, ⟨zH82⟩, ⟨zH27⟩⟩
   replace c26 := Bool.eq_false_iff.mpr c26
   subst c26
   have H1 : (impl_shiftCode.l0 k1 l0 a3 (wrap64 (x11_1 + (wrap64 (((rd_T98 l0 x26_1).f1) - ((rd_T98 l0 x26_1).f0))))) (decide (((rd_T98 l0 (l2.length : Int)).f0) < (wrap64 (((rd_T98 l0 x26_1).f1) + ((rd_T100 l1 a3).f2))))) l2 (l2.length : Int) (wrap64 (x26_1 + 1)) ((rd_T98 l0 (l2.length : Int)).f0) ((rd_T98 l0 (l2.length : Int)).f1) ((rd_T98 l0 (l2.length : Int)).f2) ((rd_T100 l1 a3).f0) ((rd_T100 l1 a3).f1) ((rd_T100 l1 a3).f2) ((rd_T100 l1 a3).f3) ((rd_T100 l1 a3).f4)) = some r := by rw [if_neg (show ¬ (false = true) by decide)] at H; exact H
   clear H
   have H := H1
   clear H1
   have H' := zb H
   clear H
   have p241 : 0 ≤ (x26_1 : Int) := zO
   have q241 : x26_1 < (l2.length : Int) := zO
   obtain ⟨ad241, e241, hx241_0⟩ := zaj HR2.out x26_1 p241 q241
   cases e241
   replace hx241_0 := (HB.out.cell (za w _ hx241_0)).trans hx241_0
   replace p241 := eq_true p241
   replace q241 := eq_true q241
   try go_wp2
   have n0_ := zb (zk BK239.out)
   have n1_ := zb (zk BK240.out)
   have n2_ := zb (zd HB.out)
   clear BK239
   clear BK240
   clear HB
   have BK239 := n0_
   have BK240 := n1_
   have HB := n2_
   clear n0_ n1_ n2_
   have p242 : 0 ≤ (x26_1 : Int) := zO
   have q242 : x26_1 < (l0.length : Int) := zO
   obtain ⟨ad242, e242, hx242_0, hx242_1, hx242_2⟩ := at_T98 HR0.out x26_1 p242 q242
   have hw242_2 := hx242_2
   have hw242_1 := hx242_1
   have hw242_0 := hx242_0
   obtain rfl : ad237 = ad242 := (by injection e242)
   replace hx242_0 := (HB.out.cell (za w _ hx242_0)).trans hx242_0
   replace hx242_1 := (HB.out.cell (za w _ hx242_1)).trans hx242_1
   replace hx242_2 := (HB.out.cell (za w _ hx242_2)).trans hx242_2
   replace p242 := eq_true p242
   replace q242 := eq_true q242
   have p243 : 0 ≤ (x26_1 : Int) := zO
   have q243 : x26_1 < (l0.length : Int) := zO
   obtain ⟨ad243, e243, hx243_0, hx243_1, hx243_2⟩ := at_T98 HR0.out x26_1 p243 q243
   have hw243_2 := hx243_2
   have hw243_1 := hx243_1
   have hw243_0 := hx243_0
   obtain rfl : ad237 = ad243 := (by injection e243)
   replace hx243_0 := (HB.out.cell (za w _ hx243_0)).trans hx243_0
   replace hx243_1 := (HB.out.cell (za w _ hx243_1)).trans hx243_1
   replace hx243_2 := (HB.out.cell (za w _ hx243_2)).trans hx243_2
   replace p243 := eq_true p243
   replace q243 := eq_true q243
   refine start_ (n := 14) (S := fun w' => w'.cell? (ad237.add ((x26_1).toNat * 3)) = some (.int .i64 ((rd_T98 l0 x26_1).f0)) ∧ w'.cell? ⟨(ad237.add ((x26_1).toNat * 3)).block, (ad237.add ((x26_1).toNat * 3)).off + 1, none⟩ = some (.int .i64 ((rd_T98 l0 x26_1).f1)) ∧ w'.cell? ⟨(ad237.add ((x26_1).toNat * 3)).block, (ad237.add ((x26_1).toNat * 3)).off + 2, none⟩ = some (.string ((rd_T98 l0 x26_1).f2)) ∧ w'.cell? (ad237.add ((x26_1).toNat * 3)) = some (.int .i64 ((rd_T98 l0 x26_1).f0)) ∧ w'.cell? ⟨(ad237.add ((x26_1).toNat * 3)).block, (ad237.add ((x26_1).toNat * 3)).off + 1, none⟩ = some (.int .i64 ((rd_T98 l0 x26_1).f1)) ∧ w'.cell? ⟨(ad237.add ((x26_1).toNat * 3)).block, (ad237.add ((x26_1).toNat * 3)).off + 2, none⟩ = some (.string ((rd_T98 l0 x26_1).f2))) (ds := []) b10A13 zG96 rfl rfl ⟨((HB.out.cell (za w _ hw242_0)).trans hw242_0), ((HB.out.cell (za w _ hw242_1)).trans hw242_1), ((HB.out.cell (za w _ hw242_2)).trans hw242_2), ((HB.out.cell (za w _ hw243_0)).trans hw243_0), ((HB.out.cell (za w _ hw243_1)).trans hw243_1), ((HB.out.cell (za w _ hw243_2)).trans hw243_2)⟩ (fun hHeld => ?_); refine with_tabW impl_shiftCode.tab6 impl_shiftCode.bits6 (fun HT_ HW_ => ?_)
   generalize wr.drew = w29 at BK239 BK240 HB hx242_0 hx242_1 hx242_2 hx243_0 hx243_1 hx243_2 hHeld ⊢
   refine pure_ (i := 0) (N := some 34) (v := ?_) (a' := ?_) b10A14 rfl rfl (any_of HT_.out zG96) (fun _ _ _ h => h) (Or.inl ⟨by rfl, ?_⟩) ?_ ?_
   rotate_left
   ·intro w'
    go_simp
    with_reducible rfl
   rotate_left
   ·simp only [Act.put, List.setIfInBounds_toArray, List.set_cons_zero, List.set_cons_succ, i64_w, i32_w]
    rfl
   refine pure_ (i := 1) (N := some 35) (v := ?_) (a' := ?_) b10A15 rfl rfl (any_of HT_.out zG96) (fun _ _ _ h => h) (Or.inl ⟨by rfl, ?_⟩) ?_ ?_
   rotate_left
   ·intro w'
    go_simp
    with_reducible rfl
   rotate_left
   ·simp only [Act.put, List.setIfInBounds_toArray, List.set_cons_zero, List.set_cons_succ, i64_w, i32_w]
    rfl
   refine pure_ (i := 2) (N := some 36) (v := ?_) (a' := ?_) b10A16 rfl rfl (any_of HT_.out zG96) (fun _ _ _ h => h) (Or.inl ⟨by rfl, ?_⟩) ?_ ?_
   rotate_left
   ·intro w'
    go_simp
    with_reducible rfl
   rotate_left
   ·simp only [Act.put, List.setIfInBounds_toArray, List.set_cons_zero, List.set_cons_succ, i64_w, i32_w]
    rfl
   refine pure_ (i := 3) (N := some 37) (v := ?_) (a' := ?_) b10A17 rfl rfl (any_of HT_.out zG96) (fun _ _ _ h => h) (Or.inl ⟨by rfl, ?_⟩) ?_ ?_
   rotate_left
   ·intro w'
    go_simp
    with_reducible rfl
   rotate_left
   ·simp only [Act.put, List.setIfInBounds_toArray, List.set_cons_zero, List.set_cons_succ, i64_w, i32_w]
    rfl
   refine pure_ (i := 4) (N := some 38) (v := ?_) (a' := ?_) b10A18 rfl rfl (any_of HT_.out zG96) (fun _ _ _ h => h) (Or.inl ⟨by rfl, ?_⟩) ?_ ?_
   rotate_left
   ·intro w'
    go_simp
    with_reducible rfl
   rotate_left
   ·simp only [Act.put, List.setIfInBounds_toArray, List.set_cons_zero, List.set_cons_succ, i64_w, i32_w]
    rfl
   refine pure_ (i := 6) (N := some 40) (v := ?_) (a' := ?_) b10A19 rfl rfl (any_of HT_.out zG96) (fun _ _ _ h => h) (Or.inl ⟨by rfl, ?_⟩) ?_ ?_
   rotate_left
   ·intro w'
    go_simp
    with_reducible rfl
   rotate_left
   ·simp only [Act.put, List.setIfInBounds_toArray, List.set_cons_zero, List.set_cons_succ, i64_w, i32_w]
    rfl
   refine pure_ (i := 7) (N := some 41) (v := ?_) (a' := ?_) b10A20 rfl rfl (any_of HT_.out zG96) (fun _ _ _ h => h) (Or.inl ⟨by rfl, ?_⟩) ?_ ?_
   rotate_left
   ·intro w'
    go_simp
    with_reducible rfl
   rotate_left
   ·simp only [Act.put, List.setIfInBounds_toArray, List.set_cons_zero, List.set_cons_succ, i64_w, i32_w]
    rfl
   refine pure_ (i := 8) (N := some 42) (v := ?_) (a' := ?_) b10A21 rfl rfl (any_of HT_.out zG96) (fun _ _ _ h => h) (Or.inl ⟨by rfl, ?_⟩) ?_ ?_
   rotate_left
   ·intro w'
    go_simp
    with_reducible rfl
   rotate_left
   ·simp only [Act.put, List.setIfInBounds_toArray, List.set_cons_zero, List.set_cons_succ, i64_w, i32_w]
    rfl
   refine pure_ (i := 9) (N := some 43) (v := ?_) (a' := ?_) b10A22 rfl rfl (any_of HT_.out zG96) (fun _ _ _ h => h) (Or.inl ⟨by rfl, ?_⟩) ?_ ?_
   rotate_left
   ·intro w'
    go_simp
    with_reducible rfl
   rotate_left
   ·simp only [Act.put, List.setIfInBounds_toArray, List.set_cons_zero, List.set_cons_succ, i64_w, i32_w]
    rfl
   refine take_ (i := 5) (N := some 39) (v := ?_) (a' := ?_) b10A23 rfl rfl (take_ofW HT_.out HW_.out zG96) (fun _ _ _ h => h) (Or.inl ⟨by rfl, ?_⟩) hHeld ?_ ?_
   rotate_left
   ·rintro w' ⟨s0, s1, s2, s3, s4, s5⟩
    go_simp
    with_reducible rfl
   rotate_left
   ·simp only [Act.put, List.setIfInBounds_toArray, List.set_cons_zero, List.set_cons_succ, i64_w, i32_w]
    rfl
   refine take_ (i := 10) (N := some 44) (v := ?_) (a' := ?_) b10A24 rfl rfl (take_ofW HT_.out HW_.out zG96) (fun _ _ _ h => h) (Or.inl ⟨by rfl, ?_⟩) hHeld ?_ ?_
   rotate_left
   ·rintro w' ⟨s0, s1, s2, s3, s4, s5⟩
    go_simp
    with_reducible rfl
   rotate_left
   ·simp only [Act.put, List.setIfInBounds_toArray, List.set_cons_zero, List.set_cons_succ, i64_w, i32_w]
    rfl
   refine pure_ (i := 11) (N := some 45) (v := ?_) (a' := ?_) b10A25 rfl rfl (any_of HT_.out zG96) (fun _ _ _ h => h) (Or.inl ⟨by rfl, ?_⟩) ?_ ?_
   rotate_left
   ·intro w'
    go_simp
    with_reducible rfl
   rotate_left
   ·simp only [Act.put, List.setIfInBounds_toArray, List.set_cons_zero, List.set_cons_succ, i64_w, i32_w]
    rfl
   refine pure_ (i := 12) (N := some 46) (v := ?_) (a' := ?_) b10A26 rfl rfl (any_of HT_.out zG96) (fun _ _ _ h => h) (Or.inl ⟨by rfl, ?_⟩) ?_ ?_
   rotate_left
   ·intro w'
    go_simp
    with_reducible rfl
   rotate_left
   ·simp only [Act.put, List.setIfInBounds_toArray, List.set_cons_zero, List.set_cons_succ, i64_w, i32_w]
    rfl
   refine pure_ (i := 13) (N := some 11) (v := ?_) (a' := ?_) b10A27 rfl rfl (any_of HT_.out zG96) (fun _ _ _ h => h) (Or.inl ⟨by rfl, ?_⟩) ?_ ?_
   rotate_left
   ·intro w'
    go_simp
    with_reducible rfl
   rotate_left
   ·simp only [Act.put, List.setIfInBounds_toArray, List.set_cons_zero, List.set_cons_succ, i64_w, i32_w]
    rfl
   refine done_ (done_of HT_.out zG96) ?_
   try go_wp2
   have n0_ := zb (zk BK239.out)
   have n1_ := zb (zk BK240.out)
   have n2_ := zb (zd HB.out)
   clear BK239
   clear BK240
   clear HB
   have BK239 := n0_
   have BK240 := n1_
   have HB := n2_
   clear n0_ n1_ n2_
   have p244 : 0 ≤ (x26_1 : Int) := zO
   have q244 : x26_1 < (l0.length : Int) := zO
   obtain ⟨ad244, e244, hx244_0, hx244_1, hx244_2⟩ := at_T98 HR0.out x26_1 p244 q244
   have hw244_2 := hx244_2
   have hw244_1 := hx244_1
   have hw244_0 := hx244_0
   obtain rfl : ad237 = ad244 := (by injection e244)
   replace hx244_0 := (HB.out.cell (za w _ hx244_0)).trans hx244_0
   replace hx244_1 := (HB.out.cell (za w _ hx244_1)).trans hx244_1
   replace hx244_2 := (HB.out.cell (za w _ hx244_2)).trans hx244_2
   replace p244 := eq_true p244
   replace q244 := eq_true q244
   refine start_ (n := 15) (S := fun w' => w'.cell? ⟨gb239, 0, none⟩ = some (.int .i64 ((rd_T98 l0 (l2.length : Int)).f0)) ∧ w'.cell? ⟨gb239, 1, none⟩ = some (.int .i64 ((rd_T98 l0 (l2.length : Int)).f1)) ∧ w'.cell? ⟨gb239, 2, none⟩ = some (.string ((rd_T98 l0 (l2.length : Int)).f2)) ∧ w'.cell? ⟨gb240, 0, none⟩ = some (.string ((rd_T100 l1 a3).f0)) ∧ w'.cell? ⟨gb240, 1, none⟩ = some (.int .i64 ((rd_T100 l1 a3).f1)) ∧ w'.cell? ⟨gb240, 2, none⟩ = some (.int .i64 ((rd_T100 l1 a3).f2)) ∧ w'.cell? ⟨gb240, 3, none⟩ = some (.int .i64 ((rd_T100 l1 a3).f3)) ∧ w'.cell? ⟨gb240, 4, none⟩ = some (.slice A238_4 ((rd_T100 l1 a3).f4).length c238_4) ∧ w'.cell? (ad237.add ((x26_1).toNat * 3)) = some (.int .i64 ((rd_T98 l0 x26_1).f0)) ∧ w'.cell? ⟨(ad237.add ((x26_1).toNat * 3)).block, (ad237.add ((x26_1).toNat * 3)).off + 1, none⟩ = some (.int .i64 ((rd_T98 l0 x26_1).f1)) ∧ w'.cell? ⟨(ad237.add ((x26_1).toNat * 3)).block, (ad237.add ((x26_1).toNat * 3)).off + 2, none⟩ = some (.string ((rd_T98 l0 x26_1).f2))) (ds := []) b10A1 zG96 rfl rfl ⟨(zg BK239.out 0).trans rfl, (zg BK239.out 1).trans rfl, (zg BK239.out 2).trans rfl, (zg BK240.out 0).trans rfl, (zg BK240.out 1).trans rfl, (zg BK240.out 2).trans rfl, (zg BK240.out 3).trans rfl, (zg BK240.out 4).trans rfl, ((HB.out.cell (za w _ hw244_0)).trans hw244_0), ((HB.out.cell (za w _ hw244_1)).trans hw244_1), ((HB.out.cell (za w _ hw244_2)).trans hw244_2)⟩ (fun hHeld => ?_); refine with_tabW impl_shiftCode.tab7 impl_shiftCode.bits7 (fun HT_ HW_ => ?_)
   generalize w29.drew = w30 at BK239 BK240 HB hx244_0 hx244_1 hx244_2 hHeld ⊢
   refine pure_ (i := 0) (N := some 47) (v := ?_) (a' := ?_) b10A2 rfl rfl (any_of HT_.out zG96) (fun _ _ _ h => h) (Or.inl ⟨by rfl, ?_⟩) ?_ ?_
   rotate_left
   ·intro w'
    go_simp
    with_reducible rfl
   rotate_left
   ·simp only [Act.put, List.setIfInBounds_toArray, List.set_cons_zero, List.set_cons_succ, i64_w, i32_w]
    rfl
   refine pure_ (i := 1) (N := some 48) (v := ?_) (a' := ?_) b10A3 rfl rfl (any_of HT_.out zG96) (fun _ _ _ h => h) (Or.inl ⟨by rfl, ?_⟩) ?_ ?_
   rotate_left
   ·intro w'
    go_simp
    with_reducible rfl
   rotate_left
   ·simp only [Act.put, List.setIfInBounds_toArray, List.set_cons_zero, List.set_cons_succ, i64_w, i32_w]
    rfl
   refine pure_ (i := 2) (N := some 49) (v := ?_) (a' := ?_) b10A4 rfl rfl (any_of HT_.out zG96) (fun _ _ _ h => h) (Or.inl ⟨by rfl, ?_⟩) ?_ ?_
   rotate_left
   ·intro w'
    go_simp
    with_reducible rfl
   rotate_left
   ·simp only [Act.put, List.setIfInBounds_toArray, List.set_cons_zero, List.set_cons_succ, i64_w, i32_w]
    rfl
   refine pure_ (i := 4) (N := some 51) (v := ?_) (a' := ?_) #[true, true, true, false, true, false, false, false, false, false, false, false, false, false, false] rfl rfl (any_of HT_.out zG96) (fun _ _ _ h => h) (Or.inl ⟨by rfl, ?_⟩) ?_ ?_
   rotate_left
   ·intro w'
    go_simp
    with_reducible rfl
   rotate_left
   ·simp only [Act.put, List.setIfInBounds_toArray, List.set_cons_zero, List.set_cons_succ, i64_w, i32_w]
    rfl
   refine pure_ (i := 5) (N := some 52) (v := ?_) (a' := ?_) #[true, true, true, false, true, true, false, false, false, false, false, false, false, false, false] rfl rfl (any_of HT_.out zG96) (fun _ _ _ h => h) (Or.inl ⟨by rfl, ?_⟩) ?_ ?_
   rotate_left
   ·intro w'
    go_simp
    with_reducible rfl
   rotate_left
   ·simp only [Act.put, List.setIfInBounds_toArray, List.set_cons_zero, List.set_cons_succ, i64_w, i32_w]
    rfl
   refine pure_ (i := 6) (N := some 53) (v := ?_) (a' := ?_) #[true, true, true, false, true, true, true, false, false, false, false, false, false, false, false] rfl rfl (any_of HT_.out zG96) (fun _ _ _ h => h) (Or.inl ⟨by rfl, ?_⟩) ?_ ?_
   rotate_left
   ·intro w'
    go_simp
    with_reducible rfl
   rotate_left
   ·simp only [Act.put, List.setIfInBounds_toArray, List.set_cons_zero, List.set_cons_succ, i64_w, i32_w]
    rfl
   refine pure_ (i := 7) (N := some 54) (v := ?_) (a' := ?_) #[true, true, true, false, true, true, true, true, false, false, false, false, false, false, false] rfl rfl (any_of HT_.out zG96) (fun _ _ _ h => h) (Or.inl ⟨by rfl, ?_⟩) ?_ ?_
   rotate_left
   ·intro w'
    go_simp
    with_reducible rfl
   rotate_left
   ·simp only [Act.put, List.setIfInBounds_toArray, List.set_cons_zero, List.set_cons_succ, i64_w, i32_w]
    rfl
   refine pure_ (i := 9) (N := some 56) (v := ?_) (a' := ?_) #[true, true, true, false, true, true, true, true, false, true, false, false, false, false, false] rfl rfl (any_of HT_.out zG96) (fun _ _ _ h => h) (Or.inl ⟨by rfl, ?_⟩) ?_ ?_
   rotate_left
   ·intro w'
    go_simp
    with_reducible rfl
   rotate_left
   ·simp only [Act.put, List.setIfInBounds_toArray, List.set_cons_zero, List.set_cons_succ, i64_w, i32_w]
    rfl
   refine take_ (i := 3) (N := some 50) (v := ?_) (a' := ?_) #[true, true, true, true, true, true, true, true, false, true, false, false, false, false, false] rfl rfl (take_ofW HT_.out HW_.out zG96) (fun _ _ _ h => h) (Or.inl ⟨by rfl, ?_⟩) hHeld ?_ ?_
   rotate_left
   ·rintro w' ⟨s0, s1, s2, s3, s4, s5, s6, s7, s8, s9, s10⟩
    go_simp
    with_reducible rfl
   rotate_left
   ·simp only [Act.put, List.setIfInBounds_toArray, List.set_cons_zero, List.set_cons_succ, i64_w, i32_w]
    rfl
   refine take_ (i := 8) (N := some 55) (v := ?_) (a' := ?_) b10A5 rfl rfl (take_ofW HT_.out HW_.out zG96) (fun _ _ _ h => h) (Or.inl ⟨by rfl, ?_⟩) hHeld ?_ ?_
   rotate_left
   ·rintro w' ⟨s0, s1, s2, s3, s4, s5, s6, s7, s8, s9, s10⟩
    go_simp
    with_reducible rfl
   rotate_left
   ·simp only [Act.put, List.setIfInBounds_toArray, List.set_cons_zero, List.set_cons_succ, i64_w, i32_w]
    rfl
   refine take_ (i := 10) (N := some 57) (v := ?_) (a' := ?_) b10A0 rfl rfl (take_ofW HT_.out HW_.out zG96) (fun _ _ _ h => h) (Or.inl ⟨by rfl, ?_⟩) hHeld ?_ ?_
   rotate_left
   ·rintro w' ⟨s0, s1, s2, s3, s4, s5, s6, s7, s8, s9, s10⟩
    go_simp
    with_reducible rfl
   rotate_left
   ·simp only [Act.put, List.setIfInBounds_toArray, List.set_cons_zero, List.set_cons_succ, i64_w, i32_w]
    rfl
   refine pure_ (i := 11) (N := some 58) (v := ?_) (a' := ?_) b10A6 rfl rfl (any_of HT_.out zG96) (fun _ _ _ h => h) (Or.inl ⟨by rfl, ?_⟩) ?_ ?_
   rotate_left
   ·intro w'
    go_simp
    with_reducible rfl
   rotate_left
   ·simp only [Act.put, List.setIfInBounds_toArray, List.set_cons_zero, List.set_cons_succ, i64_w, i32_w]
    rfl
   refine pure_ (i := 12) (N := some 59) (v := ?_) (a' := ?_) b10A7 rfl rfl (any_of HT_.out zG96) (fun _ _ _ h => h) (Or.inl ⟨by rfl, ?_⟩) ?_ ?_
   rotate_left
   ·intro w'
    go_simp
    with_reducible rfl
   rotate_left
   ·simp only [Act.put, List.setIfInBounds_toArray, List.set_cons_zero, List.set_cons_succ, i64_w, i32_w]
    rfl
   refine pure_ (i := 13) (N := some 60) (v := ?_) (a' := ?_) b10A8 rfl rfl (any_of HT_.out zG96) (fun _ _ _ h => h) (Or.inl ⟨by rfl, ?_⟩) ?_ ?_
   rotate_left
   ·intro w'
    go_simp
    with_reducible rfl
   rotate_left
   ·simp only [Act.put, List.setIfInBounds_toArray, List.set_cons_zero, List.set_cons_succ, i64_w, i32_w]
    rfl
   refine pure_ (i := 14) (N := some 12) (v := ?_) (a' := ?_) b10A9 rfl rfl (any_of HT_.out zG96) (fun _ _ _ h => h) (Or.inl ⟨by rfl, ?_⟩) ?_ ?_
   rotate_left
   ·intro w'
    go_simp
    with_reducible rfl
   rotate_left
   ·simp only [Act.put, List.setIfInBounds_toArray, List.set_cons_zero, List.set_cons_succ, i64_w, i32_w]
    rfl
   refine done_ (done_of HT_.out zG96) ?_
   try go_wp2
   go_roundg k1
   case measure => have := HK1.out; omega
   case rel => exact ⟨(wrap64 (x11_1 + (wrap64 (((rd_T98 l0 x26_1).f1) - ((rd_T98 l0 x26_1).f0))))), (decide (((rd_T98 l0 (l2.length : Int)).f0) < (wrap64 (((rd_T98 l0 x26_1).f1) + ((rd_T100 l1 a3).f2))))), (wrap64 (x26_1 + 1)), zG95, zG95, zG95, H', ⟨zH104⟩, ⟨zH81⟩, ⟨zH82⟩, ⟨zH27⟩⟩
end Go.Proofs.Ytjibigpdbpipcaa.R
