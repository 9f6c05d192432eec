-- squeezed
-- made by pp.py (wip/tools) out of the translation; Lean checks it
import Derived.Test.YtjibigpdbpipcaaR0
import Derived.Test.YtjibigpdbpipcaaR7
import Derived.Test.YtjibigpdbpipcaaR8
namespace Go.Proofs.Ytjibigpdbpipcaa.R
open Go.RowKit Go.Proofs.YtjibigpdbpipcaaW.PrintWords Go.Proofs.YtjibigpdbpipcaaW.PrintLast Go.Proofs.YtjibigpdbpipcaaW.PrintMore
attribute [local go_sem] max2_int min2_int max_two min_two max_three min_three max_four min_four   -- for this text's walks alone
set_option linter.unusedVariables false
set_option linter.unusedSimpArgs false

abbrev b9A0 : Array Bool := #[false, false, false, false, false, false, false, false, false, false, false, false, false, false, false, false, false, false, false, false, false, false, false, false, false, false, false, false, false, false, false, false, false, false, false, false]
abbrev b9A1 : Array Bool := #[true, false, false, false, false, false, false, false, false, false, false, false, false, false, false, false, false, false, false, false, false, false, false, false, false, false, false, false, false, false, false, false, false, false, false, false]
abbrev b9A2 : Array Bool := #[true, true, false, false, false, false, false, false, false, false, false, false, false, false, false, false, false, false, false, false, false, false, false, false, false, false, false, false, false, false, false, false, false, false, false, false]
abbrev b9A3 : Array Bool := #[true, true, true, false, false, false, false, false, false, false, false, false, false, false, false, false, false, false, false, false, false, false, false, false, false, false, false, false, false, false, false, false, false, false, false, false]
abbrev b9A4 : Array Bool := #[true, true, true, true, false, false, false, false, false, false, false, false, false, false, false, false, false, false, false, false, false, false, false, false, false, false, false, false, false, false, false, false, false, false, false, false]
abbrev b9A5 : Array Bool := #[true, true, true, true, true, false, false, false, false, false, false, false, false, false, false, false, false, false, false, false, false, false, false, false, false, false, false, false, false, false, false, false, false, false, false, false]
abbrev b9A6 : Array Bool := #[true, true, true, true, true, true, true, false, false, false, false, false, false, false, false, false, false, false, false, false, false, false, false, false, false, false, false, false, false, false, false, false, false, false, false, false]
abbrev b9A7 : Array Bool := #[true, true, true, true, true, true, true, true, false, false, false, false, false, false, false, false, false, false, false, false, false, false, false, false, false, false, false, false, false, false, false, false, false, false, false, false]
abbrev b9A8 : Array Bool := #[true, true, true, true, true, true, true, true, true, false, false, false, false, false, false, false, false, false, false, false, false, false, false, false, false, false, false, false, false, false, false, false, false, false, false, false]
abbrev b9A9 : Array Bool := #[true, true, true, true, true, true, true, true, true, true, false, false, false, false, false, false, false, false, false, false, false, false, false, false, false, false, false, false, false, false, false, false, false, false, false, false]
abbrev b9A10 : Array Bool := #[true, true, true, true, true, true, true, true, true, true, true, false, false, false, false, false, false, false, false, false, false, false, false, false, false, false, false, false, false, false, false, false, false, false, false, false]
abbrev b9A11 : Array Bool := #[true, true, true, true, true, true, true, true, true, true, true, true, false, false, false, false, false, false, false, false, false, false, false, false, false, false, false, false, false, false, false, false, false, false, false, false]
abbrev b9A12 : Array Bool := #[true, true, true, true, true, true, true, true, true, true, true, true, true, false, false, false, false, false, false, false, false, false, false, false, false, false, false, false, false, false, false, false, false, false, false, false]
abbrev b9A13 : Array Bool := #[true, true, true, true, true, true, true, true, true, true, true, true, true, true, false, false, false, false, false, false, false, false, false, false, false, false, false, false, false, false, false, false, false, false, false, false]
abbrev b9A14 : Array Bool := #[true, true, true, true, true, true, true, true, true, true, true, true, true, true, true, false, false, false, false, false, false, false, false, false, false, false, false, false, false, false, false, false, false, false, false, false]
abbrev b9A15 : Array Bool := #[true, true, true, true, true, true, true, true, true, true, true, true, true, true, true, true, false, false, false, false, false, false, false, false, false, false, false, false, false, false, false, false, false, false, false, false]
abbrev b9A16 : Array Bool := #[true, true, true, true, true, true, true, true, true, true, true, true, true, true, true, true, true, false, false, false, false, false, false, false, false, false, false, false, false, false, false, false, false, false, false, false]
abbrev b9A17 : Array Bool := #[true, true, true, true, true, true, true, true, true, true, true, true, true, true, true, true, true, true, false, false, false, false, false, false, false, false, false, false, false, false, false, false, false, false, false, false]
abbrev b9A18 : Array Bool := #[true, true, true, true, true, true, true, true, true, true, true, true, true, true, true, true, true, true, true, false, false, false, false, false, false, false, false, false, false, false, false, false, false, false, false, false]
abbrev b9A19 : Array Bool := #[true, true, true, true, true, true, true, true, true, true, true, true, true, true, true, true, true, true, true, true, false, false, false, false, false, false, false, false, false, false, false, false, false, false, false, false]
abbrev b9A20 : Array Bool := #[true, true, true, true, true, true, true, true, true, true, true, true, true, true, true, true, true, true, true, true, true, false, false, false, false, false, false, false, false, false, false, false, false, false, false, false]
abbrev b9A21 : Array Bool := #[true, true, true, true, true, true, true, true, true, true, true, true, true, true, true, true, true, true, true, true, true, true, false, false, false, false, false, false, false, false, false, false, false, false, false, false]
abbrev b9A22 : Array Bool := #[true, true, true, true, true, true, true, true, true, true, true, true, true, true, true, true, true, true, true, true, true, true, true, false, false, false, false, false, false, false, false, false, false, false, false, false]
abbrev b9A23 : Array Bool := #[true, true, true, true, true, true, true, true, true, true, true, true, true, true, true, true, true, true, true, true, true, true, true, true, false, false, false, false, false, false, false, false, false, false, false, false]
abbrev b9A24 : Array Bool := #[true, true, true, true, true, true, true, true, true, true, true, true, true, true, true, true, true, true, true, true, true, true, true, true, true, false, false, false, false, false, false, false, false, false, false, false]
abbrev b9A25 : Array Bool := #[true, true, true, true, true, true, true, true, true, true, true, true, true, true, true, true, true, true, true, true, true, true, true, true, true, true, false, false, false, false, false, false, false, false, false, false]
abbrev b9A26 : Array Bool := #[true, true, true, true, true, true, true, true, true, true, true, true, true, true, true, true, true, true, true, true, true, true, true, true, true, true, true, true, true, true, true, true, false, false, false, false]
abbrev b9A27 : Array Bool := #[true, true, true, true, true, true, true, true, true, true, true, true, true, true, true, true, true, true, true, true, true, true, true, true, true, true, true, true, true, true, true, true, true, false, false, false]
abbrev b9A28 : Array Bool := #[true, true, true, true, true, true, true, true, true, true, true, true, true, true, true, true, true, true, true, true, true, true, true, true, true, true, true, true, true, true, true, true, true, true, false, false]
abbrev b9A29 : Array Bool := #[true, true, true, true, true, true, true, true, true, true, true, true, true, true, true, true, true, true, true, true, true, true, true, true, true, true, true, true, true, true, true, true, true, true, true, false]
abbrev b9A30 : Array Bool := #[true, true, true, true, true, true, true, true, true, true, true, true, true, true, true, true, true, true, true, true, true, true, true, true, true, true, true, true, true, true, true, true, true, true, true, true]
abbrev b9A31 : Array Bool := #[true, true, true, true, true, false, true, false, false, false, false, false, false, false, false, false, false, false, false, false, false, false, false, false, false, false, false, false, false, false, false, false, false, false, false, false]
abbrev b9A32 : Array Bool := #[true, true, true, true, true, true, true, true, true, true, true, true, true, true, true, true, true, true, true, true, true, true, true, true, true, true, true, false, false, false, false, false, false, false, false, false]
abbrev b9A33 : Array Bool := #[true, true, true, true, true, true, true, true, true, true, true, true, true, true, true, true, true, true, true, true, true, true, true, true, true, true, true, true, false, false, false, false, false, false, false, false]
abbrev b9A34 : Array Bool := #[true, true, true, true, true, true, true, true, true, true, true, true, true, true, true, true, true, true, true, true, true, true, true, true, true, true, true, true, true, false, false, false, false, false, false, false]
abbrev b9A35 : Array Bool := #[true, true, true, true, true, true, true, true, true, true, true, true, true, true, true, true, true, true, true, true, true, true, true, true, true, true, true, true, true, true, false, false, false, false, false, false]
abbrev b9A36 : Array Bool := #[true, true, true, true, true, true, true, true, true, true, true, true, true, true, true, true, true, true, true, true, true, true, true, true, true, true, true, true, true, true, true, false, false, false, false, false]
abbrev b9A37 : Array Bool := #[true, true, true, true, true, true, true, true, true, true, true, true, true, true, true, true, true, true, true, true, true, true, true, true, true, true, false, true, false, false, false, false, false, false, false, false]
abbrev b9A38 : Array Bool := #[true, true, true, true, true, true, true, true, true, true, true, true, true, true, true, true, true, true, true, true, true, true, true, true, true, true, false, true, true, false, false, false, false, false, false, false]
abbrev b9A39 : Array Bool := #[true, true, true, true, true, true, true, true, true, true, true, true, true, true, true, true, true, true, true, true, true, true, true, true, true, true, false, true, true, true, false, false, false, false, false, false]
abbrev b9A40 : Array Bool := #[true, true, true, true, true, true, true, true, true, true, true, true, true, true, true, true, true, true, true, true, true, true, true, true, true, true, false, true, true, true, true, false, false, false, false, false]
abbrev b9A41 : Array Bool := #[true, true, true, true, true, true, true, true, true, true, true, true, true, true, true, true, true, true, true, true, true, true, true, true, true, true, false, true, true, true, true, true, false, false, false, false]
/-! ### impl_ShiftsOK: function 60 -/
mutual
def impl_ShiftsOK.j0 : Nat → List (S98) → List (S100) → Bool → Option (Bool)
 | 0, _, _, _ => none
 | k + 1, x0, x1, x17 => if x17 = true then (some false) else (impl_ShiftsOK.l0 k x0 x1 x0 (x0.length : Int) 0)
def impl_ShiftsOK.l0 : Nat → List (S98) → List (S100) → List (S98) → Int → Int → Option (Bool)
 | 0, _, _, _, _, _ => none
 | k + 1, x0, x1, x18, x19, x20 => if x20 < x19 then (if 0 ≤ x20 then (if x20 < (x18.length : Int) then (if ((rd_T98 x18 x20).f0) < 0 then (some false) else (if ((rd_T98 x18 x20).f0) ≥ ((rd_T98 x18 x20).f1) then (some false) else (if ((rd_T98 x18 x20).f1) > 10080 then (some false) else ((impl_NameOK.f k ((rd_T98 x18 x20).f2)).bind fun t225 => (if t225 = true then (if x20 > 0 then (if 0 ≤ (wrap64 (x20 - 1)) then (if (wrap64 (x20 - 1)) < (x0.length : Int) then (if ((rd_T98 x18 x20).f0) < ((rd_T98 x0 (wrap64 (x20 - 1))).f0) then (some false) else (impl_ShiftsOK.l0 k x0 x1 x18 x19 (wrap64 (x20 + 1)))) else (none)) else (none)) else (impl_ShiftsOK.l0 k x0 x1 x18 x19 (wrap64 (x20 + 1)))) else (some false)))))) else (none)) else (none)) else (impl_ShiftsOK.l1 k (([] : List ByteArray)) x1 (x1.length : Int) 0)
def impl_ShiftsOK.l1 : Nat → List ByteArray → List (S100) → Int → Int → Option (Bool)
 | 0, _, _, _, _ => none
 | k + 1, x7, x63, x64, x65 => if x65 < x64 then (if 0 ≤ x65 then (if x65 < (x63.length : Int) then ((impl_isWorker.f k ((rd_T100 x63 x65).f0) ((rd_T100 x63 x65).f1) ((rd_T100 x63 x65).f2) ((rd_T100 x63 x65).f3) ((rd_T100 x63 x65).f4)).bind fun t232 => (if t232 = true then (if x7.length < 8796093022208 then (impl_ShiftsOK.l1 k (x7 ++ [(rd_T100 x63 x65).f0]) x63 x64 (wrap64 (x65 + 1))) else (none)) else (some false))) else (none)) else (none)) else ((impl_hasTwice_string.f k x7).bind fun t236 => (some (!t236)))
end
def impl_ShiftsOK.f (k : Nat) (l0 : List (S98)) (l1 : List (S100)) : Option (Bool) := if (l0.length : Int) > 8 then (impl_ShiftsOK.j0 k l0 l1 true) else (impl_ShiftsOK.j0 k l0 l1 (decide ((l1.length : Int) > 5)))
theorem impl_ShiftsOK.mono_l : ∀ k, (∀ y0 y1 y2, LeO (impl_ShiftsOK.j0 k y0 y1 y2) (impl_ShiftsOK.j0 (k + 1) y0 y1 y2)) ∧ (∀ y0 y1 y2 y3 y4, LeO (impl_ShiftsOK.l0 k y0 y1 y2 y3 y4) (impl_ShiftsOK.l0 (k + 1) y0 y1 y2 y3 y4)) ∧ (∀ y0 y1 y2 y3, LeO (impl_ShiftsOK.l1 k y0 y1 y2 y3) (impl_ShiftsOK.l1 (k + 1) y0 y1 y2 y3))
 | 0 => ⟨fun _ _ _ r h => by simp [impl_ShiftsOK.j0] at h, fun _ _ _ _ _ r h => by simp [impl_ShiftsOK.l0] at h, fun _ _ _ _ r h => by simp [impl_ShiftsOK.l1] at h⟩
 | k + 1 => by
  obtain ⟨ih0, ih1, ih2⟩ := impl_ShiftsOK.mono_l k
  refine ⟨?_, ?_, ?_⟩
  ·intro y0 y1 y2
   unfold impl_ShiftsOK.j0
   repeat' first
   | (with_reducible exact ih0 _ _ _)
   | (with_reducible exact ih1 _ _ _ _ _)
   | (with_reducible exact ih2 _ _ _ _)
   | (with_reducible exact impl_NameOK.mono _ _)
   | (with_reducible exact impl_hasTwice_string.mono _ _)
   | (with_reducible exact impl_isWorker.mono _ _ _ _ _ _)
   | (with_reducible exact LeO.refl _)
   | (with_reducible exact LeO.none _)
   | (with_reducible refine LeO.ite ?_ ?_)
   | (with_reducible refine LeO.bind ?_ (fun _ => ?_))
   | exact ih0 _ _ _
   | exact ih1 _ _ _ _ _
   | exact ih2 _ _ _ _
   | exact impl_NameOK.mono _ _
   | exact impl_hasTwice_string.mono _ _
   | exact impl_isWorker.mono _ _ _ _ _ _
   | exact LeO.none _
   | refine LeO.ite ?_ ?_
   | refine LeO.bind ?_ (fun _ => ?_)
  ·intro y0 y1 y2 y3 y4
   unfold impl_ShiftsOK.l0
   repeat' first
   | (with_reducible exact ih0 _ _ _)
   | (with_reducible exact ih1 _ _ _ _ _)
   | (with_reducible exact ih2 _ _ _ _)
   | (with_reducible exact impl_NameOK.mono _ _)
   | (with_reducible exact impl_hasTwice_string.mono _ _)
   | (with_reducible exact impl_isWorker.mono _ _ _ _ _ _)
   | (with_reducible exact LeO.refl _)
   | (with_reducible exact LeO.none _)
   | (with_reducible refine LeO.ite ?_ ?_)
   | (with_reducible refine LeO.bind ?_ (fun _ => ?_))
   | exact ih0 _ _ _
   | exact ih1 _ _ _ _ _
   | exact ih2 _ _ _ _
   | exact impl_NameOK.mono _ _
   | exact impl_hasTwice_string.mono _ _
   | exact impl_isWorker.mono _ _ _ _ _ _
   | exact LeO.none _
   | refine LeO.ite ?_ ?_
   | refine LeO.bind ?_ (fun _ => ?_)
  ·intro y0 y1 y2 y3
   unfold impl_ShiftsOK.l1
   repeat' first
   | (with_reducible exact ih0 _ _ _)
   | (with_reducible exact ih1 _ _ _ _ _)
   | (with_reducible exact ih2 _ _ _ _)
   | (with_reducible exact impl_NameOK.mono _ _)
   | (with_reducible exact impl_hasTwice_string.mono _ _)
   | (with_reducible exact impl_isWorker.mono _ _ _ _ _ _)
   | (with_reducible exact LeO.refl _)
   | (with_reducible exact LeO.none _)
   | (with_reducible refine LeO.ite ?_ ?_)
   | (with_reducible refine LeO.bind ?_ (fun _ => ?_))
   | exact ih0 _ _ _
   | exact ih1 _ _ _ _ _
   | exact ih2 _ _ _ _
   | exact impl_NameOK.mono _ _
   | exact impl_hasTwice_string.mono _ _
   | exact impl_isWorker.mono _ _ _ _ _ _
   | exact LeO.none _
   | refine LeO.ite ?_ ?_
   | refine LeO.bind ?_ (fun _ => ?_)
theorem impl_ShiftsOK.mono : ∀ a0 a1 k, LeO (impl_ShiftsOK.f k a0 a1) (impl_ShiftsOK.f (k + 1) a0 a1) := by
 intro a0 a1 k
 obtain ⟨ih0, ih1, ih2⟩ := impl_ShiftsOK.mono_l k
 unfold impl_ShiftsOK.f
 repeat' first
   | (with_reducible exact ih0 _ _ _)
   | (with_reducible exact ih1 _ _ _ _ _)
   | (with_reducible exact ih2 _ _ _ _)
   | (with_reducible exact impl_NameOK.mono _ _)
   | (with_reducible exact impl_hasTwice_string.mono _ _)
   | (with_reducible exact impl_isWorker.mono _ _ _ _ _ _)
   | (with_reducible exact LeO.refl _)
   | (with_reducible exact LeO.none _)
   | (with_reducible refine LeO.ite ?_ ?_)
   | (with_reducible refine LeO.bind ?_ (fun _ => ?_))
   | exact ih0 _ _ _
   | exact ih1 _ _ _ _ _
   | exact ih2 _ _ _ _
   | exact impl_NameOK.mono _ _
   | exact impl_hasTwice_string.mono _ _
   | exact impl_isWorker.mono _ _ _ _ _ _
   | exact LeO.none _
   | refine LeO.ite ?_ ?_
   | refine LeO.bind ?_ (fun _ => ?_)
def impl_ShiftsOK.T6 : Bool × List (List Nat × List Nat) := (true, [([], []), ([0], [0]), ([1], [1]), ([2], [2]), ([3], [3]), ([4, 3], [3, 4]), ([3], [3]), ([6, 3], [3, 6]), ([5, 7, 3], [3, 5, 7]), ([3, 8], [3, 8]), ([9, 3], [9]), ([10], [10]), ([11, 10], [10, 11]), ([12, 10], [10, 12]), ([10, 13], [10, 13]), ([14, 10], [14]), ([15], [15]), ([16, 15], [15, 16]), ([17, 15, 15], [15, 17]), ([18, 15], [15, 18]), ([15, 19], [15, 19]), ([20, 18], [20]), ([21], [21]), ([22, 21], [21, 22]), ([23, 21, 21], [21, 23]), ([24], [24]), ([25, 24], [24, 25]), ([24], [24]), ([24], [24]), ([28, 24], [24, 28]), ([27, 29, 24], [24, 27, 29]), ([30, 24], [24, 30]), ([31, 24], [24, 31]), ([26, 32, 24], [24, 26, 32]), ([24, 33, 21], [21, 24, 33]), ([21, 34], [21, 34])])
def impl_ShiftsOK.B6 : List Nat := [0, 1, 3, 7, 15, 31, 15, 79, 255, 511, 1023, 2047, 4095, 8191, 16383, 32767, 65535, 131071, 262143, 524287, 1048575, 2097151, 4194303, 8388607, 16777215, 33554431, 67108863, 33554431, 33554431, 301989887, 973078527, 2046820351, 4194303999, 8589934591, 17179869183, 34359738367]
theorem impl_ShiftsOK.tab6 : rtab .any (opsOf Try.f60 6) = impl_ShiftsOK.T6 := by kernel_rfl
theorem impl_ShiftsOK.bits6 : waitsOk impl_ShiftsOK.T6.2 impl_ShiftsOK.B6 = true := by kernel_rfl
set_option maxHeartbeats 8000000 in
set_option maxRecDepth 100000 in
theorem impl_ShiftsOK.calls (k : Nat) (A0 : Option Addr) (c0 : Nat) (l0 : List (S98)) (A1 : Option Addr) (c1 : Nat) (l1 : List (S100)) (r : Bool) (w : World) (hr0 : Kd.C k98 w A0 l0.length l0) (hc0 : l0.length ≤ c0) (hr1 : Kd.C k100 w A1 l1.length l1) (hc1 : l1.length ≤ c1) (h : impl_ShiftsOK.f k l0 l1 = some r) :
  Calls Try.prog 60 #[.slice A0 l0.length c0, .slice A1 l1.length c1] w fun e w' => e = .returned (.bool r) ∧ Below w.heap.size w w' := by
 have hu98 := Try.underlying98
 have hu100 := Try.underlying100
 have HR0 := zb hr0
 have HC0 := zb hc0
 clear hr0 hc0
 have HR1 := zb hr1
 have HC1 := zb hc1
 clear hr1 hc1
 have HB := zb (Below.refl w.heap.size w)
 have H : (if (l0.length : Int) > 8 then (impl_ShiftsOK.j0 k l0 l1 true) else (impl_ShiftsOK.j0 k l0 l1 (decide ((l1.length : Int) > 5)))) = some r := h
 clear h
 have HC3 := zb H
 clear H
 go_enter Try.func60, Try.ntmps60
 go_upto_region 1 with (fail)
 go_cut [17] (fun v17 wc => ∃ (kq : Nat) (x17_2 : Bool), v17 = .bool x17_2 ∧ Aside0 (impl_ShiftsOK.j0 kq l0 l1 x17_2 = some r) ∧ Aside0 (kq ≤ k) ∧ Aside0 (Below w.heap.size w wc))
 case first =>
  have H := HC3.out
  clear HC3
  by_cases c4 : (l0.length : Int) > 8
  rotate_left
  ·rw [if_neg c4] at H
   have c4b0 : decide (8 < (l0.length : Int)) = false := decide_eq_false c4
   have c4b1 : decide (8 < l0.length) = false := decide_eq_false (by omega)
   clear c4
   (first | rw [c4b0] | (simp only [i64_w, i32_w]; rw [c4b0]) | skip)
   have H' := zb H
   clear H
   go_wp2
   go_meet
   case rel => exact ⟨_, (decide ((l1.length : Int) > 5)), zG95, H', ⟨zH101⟩, ⟨zH79⟩⟩
  rw [if_pos c4] at H
  have c4b0 : decide (8 < (l0.length : Int)) = true := decide_eq_true c4
  have c4b1 : decide (8 < l0.length) = true := decide_eq_true (by omega)
  clear c4
  (first | rw [c4b0] | (simp only [i64_w, i32_w]; rw [c4b0]) | skip)
  have H' := zb H
  clear H
  go_wp2
  go_meet
  case rel => exact ⟨_, (true), zG95, H', ⟨zH101⟩, ⟨zH79⟩⟩
 case rest =>
  clear HC3
  try clear c1
  try clear p2
  try clear c4
  try clear c4b0
  try clear c4b1
  obtain ⟨kq, x17_2, rfl, HA, HJ2, HB⟩ := hcut
  cases kq with
  | zero => exact absurd HA.out (by simp [impl_ShiftsOK.j0])
  | succ kj2 =>
   have H := HA.out
   clear HA
   simp only [impl_ShiftsOK.j0] at H
   by_cases c5 : x17_2 = true
   ·subst c5
    have H1 : (some false) = some r := by rw [if_pos rfl] at H; exact H
    clear H
    have H := H1
    clear H1
    obtain rfl := Option.some.inj H
    go_wp2
    go_ret
    exact zH24
   replace c5 := Bool.eq_false_iff.mpr c5
   subst c5
   have H1 : (impl_ShiftsOK.l0 kj2 l0 l1 l0 (l0.length : Int) 0) = some r := by rw [if_neg (show ¬ (false = true) by decide)] at H; exact H
   clear H
   have H := H1
   clear H1
   have H' := zb H
   clear H
   go_wp2
   go_loopg [20] kj2 (fun kq v20 w' => ∃ (x20_2 : Int), v20 = .int .i64 x20_2 ∧ Aside0 (impl_ShiftsOK.l0 kq l0 l1 l0 (l0.length : Int) x20_2 = some r) ∧ Aside0 (kq ≤ kj2) ∧ Aside0 (Below w.heap.size w w'))
   case atStart => exact ⟨(0), zG95, H', ⟨Nat.le_refl _⟩, ⟨zH79⟩⟩
   case round =>
    clear H'
    try clear c1
    try clear p2
    try clear c4
    try clear c4b0
    try clear c4b1
    try clear c5
    try clear p2
    obtain ⟨x20_2, rfl, HA, HK2, HB⟩ := hrel
    cases gk with
    | zero => exact absurd HA.out (by simp [impl_ShiftsOK.l0])
    | succ k2 =>
     have H := HA.out
     clear HA
     simp only [impl_ShiftsOK.l0] at H
     by_cases c6 : x20_2 < (l0.length : Int)
     rotate_left
     ·rw [if_neg c6] at H
      have c6b0 := decide_eq_false c6
      clear c6
      obtain ⟨y227, hy227⟩ : ∃ y_ : List ByteArray, y_ = (([] : List ByteArray)) := ⟨_, rfl⟩
      replace H : (impl_ShiftsOK.l1 k2 y227 l1 (l1.length : Int) 0) = some r := by first | (rw [hy227]; with_reducible exact H) | (have H2_ := (Option.bind_some _ _).symm.trans H; rw [hy227]; with_reducible exact H2_) | (have H2_ := (Option.bind_some _ _).symm.trans H; with_reducible exact H2_) | with_reducible exact H | (rw [hy227]; exact H) | exact H
      have Ny227 := zb hy227
      clear hy227
      have H' := zb H
      clear H
      go_wp2_with (first | ((with_reducible refine gate_dst (N := 62) rfl ?_); (try (refine gate_guard (by rfl) ?_; dsimp only)); refine Kd.R_lit Kd.string _ 9 ?hg (N := 62) ?hd (xs := ([] : List ByteArray)) (inner := []) (ok := fun _ => True) (okp := fun _ => True) ?hr ?hp (fun _ hk => hk) trivial (Below.refl _ _) (Nat.le_refl _) (by simp) ?_; (case hd => rfl); (case hg => rfl); (case hr => exact zH100); (case hp => exact (Reps.none _ _)); intro v228 w47 ho48 hb hg_ hnew_; clear hg_ hnew_; (first | rw [← Ny227.out] at ho48 | (simp only [Int.reduceToNat] at ho48; rw [← Ny227.out] at ho48)); have n_ := zA_ (zb (zag ho48 (zo zG76))) (zb (zq zG76 hb)); clear HB; obtain ⟨HO229, HB⟩ := n_; clear hb ho48))
      go_loopg [7, 65] k2 (fun kq v7 v65 w' => ∃ (x7_3 : List ByteArray) (x65_3 : Int), v65 = .int .i64 x65_3 ∧ Aside0 (impl_ShiftsOK.l1 kq x7_3 l1 (l1.length : Int) x65_3 = some r) ∧ Aside0 (kq ≤ k2) ∧ Aside0 (Kd.R Kd.string 9 w' w.heap.size (fun _ => True) v7 x7_3) ∧ Aside0 (Below w.heap.size w w'))
      case atStart => exact ⟨(y227), (0), zG95, H', ⟨Nat.le_refl _⟩, ⟨by (with_reducible repeat (first | apply zl | apply zm | apply zn)); exact HO229.out⟩, ⟨zH79⟩⟩
      case round =>
       clear H'
       try clear c2
       try clear p2
       try clear q2
       try clear hx2
       try clear c6
       try clear c6b0
       try clear p6
       try clear c7
       try clear c8
       try clear p22
       try clear q22
       try clear hx22
       try clear c25
       try clear c26
       try clear c26b0
       try clear c28
       try clear c29
       try clear hcz40_0
       try clear hcz40_1
       try clear hcz40_2
       try clear hcz44_0
       try clear hcz44_1
       try clear hcz44_2
       try clear hfz40_0
       try clear hfz40_1
       try clear hfz40_2
       try clear hfz44_0
       try clear hfz44_1
       try clear hfz44_2
       try clear hx223_0
       try clear hx223_1
       try clear hx223_2
       try clear p223
       try clear q223
       obtain ⟨x7_3, x65_3, rfl, HA, HK3, HO_7, HB⟩ := hrel
       cases gk with
       | zero => exact absurd HA.out (by simp [impl_ShiftsOK.l1])
       | succ k3 =>
        have H := HA.out
        clear HA
        simp only [impl_ShiftsOK.l1] at H
        by_cases c49 : x65_3 < (l1.length : Int)
        rotate_left
        ·rw [if_neg c49] at H
         have c49b0 := decide_eq_false c49
         clear c49
         replace H := Option.bind_eq_some_iff.mp H
         obtain ⟨t236, A630, H⟩ := H
         replace H : (some (!t236)) = some r := H
         have A63 := zb A630
         clear A630
         obtain rfl := Option.some.inj H
         obtain ⟨Ao64, co64, eo64⟩ := zah HO_7.out
         subst eo64
         go_wp2_with (first | ((with_reducible refine gate_callee (f := 72) rfl ?_); refine goesL_ (some 79) rfl rfl Try.func72 zG96 rfl #[.slice Ao64 x7_3.length co64] rfl zG65 ?_; (with_reducible refine (impl_hasTwice_string.calls k3 _ _ x7_3 t236 _ ?side1 ?side2 A63.out).mono ?_); (case side1 => repeat (first | exact (Kd.R_reads' HO_7.out).2.2 | (with_reducible refine zr ?_ _) | (with_reducible refine zs ?_ _) | (with_reducible refine zt ?_))); (case side2 => exact (Kd.R_reads' HO_7.out).2.1); rintro e w' ⟨rfl, ⟨nd, rfl⟩⟩; refine ⟨_, rfl, ?_⟩))
         go_ret
         exact zH24

        rw [if_pos c49] at H
        have c49b0 := decide_eq_true c49
        clear c49
        by_cases c50 : 0 ≤ x65_3
        rotate_left
        ·rw [if_neg c50] at H
         exact absurd H (by simp)
        rw [if_pos c50] at H
        have c50b0 := decide_eq_true c50
        clear c50
        by_cases c51 : x65_3 < (l1.length : Int)
        rotate_left
        ·rw [if_neg c51] at H
         exact absurd H (by simp)
        rw [if_pos c51] at H
        have c51b0 := decide_eq_true c51
        clear c51
        replace H := Option.bind_eq_some_iff.mp H
        obtain ⟨t232, A520, H⟩ := H
        replace H : (if t232 = true then (if x7_3.length < 8796093022208 then (impl_ShiftsOK.l1 k3 (x7_3 ++ [(rd_T100 l1 x65_3).f0]) l1 (l1.length : Int) (wrap64 (x65_3 + 1))) else (none)) else (some false)) = some r := H
        have A52 := zb A520
        clear A520
        by_cases c53 : t232 = true
        rotate_left
        ·replace c53 := Bool.eq_false_iff.mpr c53
         subst c53
         have H1 : (some false) = some r := by rw [if_neg (show ¬ (false = true) by decide)] at H; exact H
         clear H
         have H := H1
         clear H1
         obtain rfl := Option.some.inj H
         have p230 : 0 ≤ (x65_3 : Int) := zO
         have q230 : x65_3 < (l1.length : Int) := zO
         obtain ⟨ad230, A230_4, c230_4, e230, hx230_0, hx230_1, hx230_2, hx230_3, hx230_4, hl230_4, hi230_4⟩ := at_T100 HR1.out x65_3 p230 q230
         cases e230
         replace hx230_0 := (HB.out.cell (za w _ hx230_0)).trans hx230_0
         replace hx230_1 := (HB.out.cell (za w _ hx230_1)).trans hx230_1
         replace hx230_2 := (HB.out.cell (za w _ hx230_2)).trans hx230_2
         replace hx230_3 := (HB.out.cell (za w _ hx230_3)).trans hx230_3
         replace hx230_4 := (HB.out.cell (za w _ hx230_4)).trans hx230_4
         have HR230_4 := zb hi230_4
         have HC230_4 := zb hl230_4
         clear hi230_4 hl230_4
         replace p230 := eq_true p230
         replace q230 := eq_true q230
         go_wp2_with (first | ((with_reducible refine gate_dst (N := 9) rfl ?_); (try (refine gate_guard (by rfl) ?_; dsimp only)); refine box_event ?hg (N := 9) ?hd (cs := #[.string (⟨#[]⟩ : ByteArray), .int .i64 0, .int .i64 0, .int .i64 0, .slice none 0 0]) (t := 100) ?hr ?_; (case hd => rfl); (case hg => rfl); (case hr => exact zH100); intro gb231 hg w60 hbox hb; have n_ := zA_ (zb (zp zK198 hb)) (zA_ (zb (zq zG76 hb)) (zA_ (zb (hbox)) (zA_ (zb ((by rw [hg]; exact (zo zG76) : w.heap.size ≤ gb231))) (zb ((by rw [hg]; exact (zo zG76) : w.heap.size ≤ gb231)))))); clear HO_7 HB; obtain ⟨HO_7, HB, BK231, GW231, GE231⟩ := n_; clear hb hbox hg; have hcz61_0 : w60.cell? ⟨gb231, 0, none⟩ = some (.string (⟨#[]⟩ : ByteArray)) := (zg BK231.out 0).trans rfl; have hcz61_1 : w60.cell? ⟨gb231, 1, none⟩ = some (.int .i64 0) := (zg BK231.out 1).trans rfl; have hcz61_2 : w60.cell? ⟨gb231, 2, none⟩ = some (.int .i64 0) := (zg BK231.out 2).trans rfl; have hcz61_3 : w60.cell? ⟨gb231, 3, none⟩ = some (.int .i64 0) := (zg BK231.out 3).trans rfl; have hcz61_4 : w60.cell? ⟨gb231, 4, none⟩ = some (.slice none 0 0) := (zg BK231.out 4).trans rfl; have hfz61_0 := zf BK231.out 0; have hfz61_1 := zf BK231.out 1; have hfz61_2 := zf BK231.out 2; have hfz61_3 := zf BK231.out 3; have hfz61_4 := zf BK231.out 4) | ((with_reducible refine gate_callee (f := 80) rfl ?_); refine goesL_ (some 70) rfl rfl Try.func80 zG96 rfl #[.agg #[.string ((rd_T100 l1 x65_3).f0), .int .i64 ((rd_T100 l1 x65_3).f1), .int .i64 ((rd_T100 l1 x65_3).f2), .int .i64 ((rd_T100 l1 x65_3).f3), .slice A230_4 ((rd_T100 l1 x65_3).f4).length c230_4]] rfl zG65 ?_; (with_reducible refine (impl_isWorker.calls k3 ((rd_T100 l1 x65_3).f0) ((rd_T100 l1 x65_3).f1) ((rd_T100 l1 x65_3).f2) ((rd_T100 l1 x65_3).f3) _ _ ((rd_T100 l1 x65_3).f4) false _ ?side1 ?side2 A52.out).mono ?_); (case side1 => exact zH31); (case side2 => exact HC230_4.out); rintro e w62 ⟨rfl, hb⟩; refine ⟨_, rfl, ?_⟩; have n_ := zA_ (zb (zp zK106 hb)) (zA_ (zb (zu (g := gb231) (o := .cells #[.string ((rd_T100 l1 x65_3).f0), .int .i64 ((rd_T100 l1 x65_3).f1), .int .i64 ((rd_T100 l1 x65_3).f2), .int .i64 ((rd_T100 l1 x65_3).f3), .slice A230_4 ((rd_T100 l1 x65_3).f4).length c230_4] 100 (0, 0)) zK105 hb)) (zb (zq zK157 hb))); clear HO_7 BK231 HB; obtain ⟨HO_7, BK231, HB⟩ := n_; (try clear hb); (try clear hk)))
         go_ret
         exact ⟨zH89, zH53⟩
        subst c53
        have H1 : (if x7_3.length < 8796093022208 then (impl_ShiftsOK.l1 k3 (x7_3 ++ [(rd_T100 l1 x65_3).f0]) l1 (l1.length : Int) (wrap64 (x65_3 + 1))) else (none)) = some r := by rw [if_pos rfl] at H; exact H
        clear H
        have H := H1
        clear H1
        by_cases c54 : x7_3.length < 8796093022208
        rotate_left
        ·rw [if_neg c54] at H
         exact absurd H (by simp)
        rw [if_pos c54] at H
        have LMc54 := zb c54
        clear c54
        obtain ⟨y233, hy233⟩ : ∃ y_ : List ByteArray, y_ = (x7_3 ++ [(rd_T100 l1 x65_3).f0]) := ⟨_, rfl⟩
        replace H : (impl_ShiftsOK.l1 k3 y233 l1 (l1.length : Int) (wrap64 (x65_3 + 1))) = some r := by first | (rw [hy233]; with_reducible exact H) | (have H2_ := (Option.bind_some _ _).symm.trans H; rw [hy233]; with_reducible exact H2_) | (have H2_ := (Option.bind_some _ _).symm.trans H; with_reducible exact H2_) | with_reducible exact H | (rw [hy233]; exact H) | exact H
        have Ny233 := zb hy233
        clear hy233
        have H' := zb H
        clear H
        have p230 : 0 ≤ (x65_3 : Int) := zO
        have q230 : x65_3 < (l1.length : Int) := zO
        obtain ⟨ad230, A230_4, c230_4, e230, hx230_0, hx230_1, hx230_2, hx230_3, hx230_4, hl230_4, hi230_4⟩ := at_T100 HR1.out x65_3 p230 q230
        cases e230
        replace hx230_0 := (HB.out.cell (za w _ hx230_0)).trans hx230_0
        replace hx230_1 := (HB.out.cell (za w _ hx230_1)).trans hx230_1
        replace hx230_2 := (HB.out.cell (za w _ hx230_2)).trans hx230_2
        replace hx230_3 := (HB.out.cell (za w _ hx230_3)).trans hx230_3
        replace hx230_4 := (HB.out.cell (za w _ hx230_4)).trans hx230_4
        have HR230_4 := zb hi230_4
        have HC230_4 := zb hl230_4
        clear hi230_4 hl230_4
        replace p230 := eq_true p230
        replace q230 := eq_true q230
        go_wp2_with (first | ((with_reducible refine gate_dst (N := 9) rfl ?_); (try (refine gate_guard (by rfl) ?_; dsimp only)); refine box_event ?hg (N := 9) ?hd (cs := #[.string (⟨#[]⟩ : ByteArray), .int .i64 0, .int .i64 0, .int .i64 0, .slice none 0 0]) (t := 100) ?hr ?_; (case hd => rfl); (case hg => rfl); (case hr => exact zH100); intro gb231 hg w55 hbox hb; have n_ := zA_ (zb (zp zK198 hb)) (zA_ (zb (zq zG76 hb)) (zA_ (zb (hbox)) (zA_ (zb ((by rw [hg]; exact (zo zG76) : w.heap.size ≤ gb231))) (zb ((by rw [hg]; exact (zo zG76) : w.heap.size ≤ gb231)))))); clear HO_7 HB; obtain ⟨HO_7, HB, BK231, GW231, GE231⟩ := n_; clear hb hbox hg; have hcz56_0 : w55.cell? ⟨gb231, 0, none⟩ = some (.string (⟨#[]⟩ : ByteArray)) := (zg BK231.out 0).trans rfl; have hcz56_1 : w55.cell? ⟨gb231, 1, none⟩ = some (.int .i64 0) := (zg BK231.out 1).trans rfl; have hcz56_2 : w55.cell? ⟨gb231, 2, none⟩ = some (.int .i64 0) := (zg BK231.out 2).trans rfl; have hcz56_3 : w55.cell? ⟨gb231, 3, none⟩ = some (.int .i64 0) := (zg BK231.out 3).trans rfl; have hcz56_4 : w55.cell? ⟨gb231, 4, none⟩ = some (.slice none 0 0) := (zg BK231.out 4).trans rfl; have hfz56_0 := zf BK231.out 0; have hfz56_1 := zf BK231.out 1; have hfz56_2 := zf BK231.out 2; have hfz56_3 := zf BK231.out 3; have hfz56_4 := zf BK231.out 4) | ((with_reducible refine gate_callee (f := 80) rfl ?_); refine goesL_ (some 70) rfl rfl Try.func80 zG96 rfl #[.agg #[.string ((rd_T100 l1 x65_3).f0), .int .i64 ((rd_T100 l1 x65_3).f1), .int .i64 ((rd_T100 l1 x65_3).f2), .int .i64 ((rd_T100 l1 x65_3).f3), .slice A230_4 ((rd_T100 l1 x65_3).f4).length c230_4]] rfl zG65 ?_; (with_reducible refine (impl_isWorker.calls k3 ((rd_T100 l1 x65_3).f0) ((rd_T100 l1 x65_3).f1) ((rd_T100 l1 x65_3).f2) ((rd_T100 l1 x65_3).f3) _ _ ((rd_T100 l1 x65_3).f4) true _ ?side1 ?side2 A52.out).mono ?_); (case side1 => exact zH31); (case side2 => exact HC230_4.out); rintro e w57 ⟨rfl, hb⟩; refine ⟨_, rfl, ?_⟩; have n_ := zA_ (zb (zp zK106 hb)) (zA_ (zb (zu (g := gb231) (o := .cells #[.string ((rd_T100 l1 x65_3).f0), .int .i64 ((rd_T100 l1 x65_3).f1), .int .i64 ((rd_T100 l1 x65_3).f2), .int .i64 ((rd_T100 l1 x65_3).f3), .slice A230_4 ((rd_T100 l1 x65_3).f4).length c230_4] 100 (0, 0)) zK105 hb)) (zb (zq zK157 hb))); clear HO_7 BK231 HB; obtain ⟨HO_7, BK231, HB⟩ := n_; (try clear hb); (try clear hk); have hcz58_0 : w57.cell? ⟨gb231, 0, none⟩ = some (.string ((rd_T100 l1 x65_3).f0)) := (zg BK231.out 0).trans rfl; have hcz58_1 : w57.cell? ⟨gb231, 1, none⟩ = some (.int .i64 ((rd_T100 l1 x65_3).f1)) := (zg BK231.out 1).trans rfl; have hcz58_2 : w57.cell? ⟨gb231, 2, none⟩ = some (.int .i64 ((rd_T100 l1 x65_3).f2)) := (zg BK231.out 2).trans rfl; have hcz58_3 : w57.cell? ⟨gb231, 3, none⟩ = some (.int .i64 ((rd_T100 l1 x65_3).f3)) := (zg BK231.out 3).trans rfl; have hcz58_4 : w57.cell? ⟨gb231, 4, none⟩ = some (.slice A230_4 ((rd_T100 l1 x65_3).f4).length c230_4) := (zg BK231.out 4).trans rfl; have hfz58_0 := zf BK231.out 0; have hfz58_1 := zf BK231.out 1; have hfz58_2 := zf BK231.out 2; have hfz58_3 := zf BK231.out 3; have hfz58_4 := zf BK231.out 4) | ((with_reducible refine gate_builtin (b := .append) (xs := #[.tmp 72, .tmp 75]) rfl ?_); (try (refine gate_guard (by rfl) ?_; dsimp only)); at_builtin; refine Kd.R_append Kd.string (w0 := w) w.heap.size rfl (.tmp 72) (.tmp 75) 92 9 (.string ⟨#[]⟩) 16 rfl Try.underlying92 info9 rfl (by decide) (by omega) u7 x7_3 ((rd_T100 l1 x65_3).f0) [.string ((rd_T100 l1 x65_3).f0)] (fun _ => True) (fun _ => False) rfl rfl ?aP (fun _ hk => hk.elim) ?aF ?aO ?aB ?aS ?aL ?_; (case aP => exact rfl); (case aB => exact zK157); (case aF => exact (fun _ _ => trivial)); (case aO => exact zK198); (case aS => exact (zo zK157)); (case aL => have := LMc54.out; omega); intro v234 w59 ho hb hg hat; rw [← Ny233.out] at ho; have n_ := zA_ (zb (blk_grown (g := gb231) (o := .cells #[.string ((rd_T100 l1 x65_3).f0), .int .i64 ((rd_T100 l1 x65_3).f1), .int .i64 ((rd_T100 l1 x65_3).f2), .int .i64 ((rd_T100 l1 x65_3).f3), .slice A230_4 ((rd_T100 l1 x65_3).f4).length c230_4] 100 (0, 0)) (by (with_reducible repeat (first | refine zi ?_ _ | refine zk ?_ | refine zj ?_ _)); exact BK231.out) hg (zay HO_7.out BK231.out (by decide)))) (zA_ (zb (hb)) (zb (ho))); clear BK231 HB HO_7; obtain ⟨BK231, HB, HO235⟩ := n_; clear ho hb hg hat))
        go_roundg k3
        case measure => have := HJ2.out; have := HK2.out; have := HK3.out; omega
        case rel => exact ⟨(y233), (wrap64 (x65_3 + 1)), zG95, H', ⟨by have := HJ2.out; have := HK2.out; have := HK3.out; omega⟩, ⟨by (with_reducible repeat (first | apply zl | apply zm | apply zn)); exact HO235.out⟩, ⟨zH53⟩⟩
     rw [if_pos c6] at H
     have c6b0 := decide_eq_true c6
     clear c6
     by_cases c7 : 0 ≤ x20_2
     rotate_left
     ·rw [if_neg c7] at H
      exact absurd H (by simp)
     rw [if_pos c7] at H
     have c7b0 := decide_eq_true c7
     clear c7
     by_cases c8 : x20_2 < (l0.length : Int)
     rotate_left
     ·rw [if_neg c8] at H
      exact absurd H (by simp)
     rw [if_pos c8] at H
     have c8b0 := decide_eq_true c8
     clear c8
     by_cases c9 : ((rd_T98 l0 x20_2).f0) < 0
     ·rw [if_pos c9] at H
      have c9b0 := decide_eq_true c9
      clear c9
      obtain rfl := Option.some.inj H
      have p223 : 0 ≤ (x20_2 : Int) := zO
      have q223 : x20_2 < (l0.length : Int) := zO
      obtain ⟨ad223, e223, hx223_0, hx223_1, hx223_2⟩ := at_T98 HR0.out x20_2 p223 q223
      cases e223
      replace hx223_0 := (HB.out.cell (za w _ hx223_0)).trans hx223_0
      replace hx223_1 := (HB.out.cell (za w _ hx223_1)).trans hx223_1
      replace hx223_2 := (HB.out.cell (za w _ hx223_2)).trans hx223_2
      replace p223 := eq_true p223
      replace q223 := eq_true q223
      try go_wp2_with (first | ((with_reducible refine gate_dst (N := 6) rfl ?_); (try (refine gate_guard (by rfl) ?_; dsimp only)); refine box_event ?hg (N := 6) ?hd (cs := #[.int .i64 0, .int .i64 0, .string (⟨#[]⟩ : ByteArray)]) (t := 98) ?hr ?_; (case hd => rfl); (case hg => rfl); (case hr => exact zH100); intro gb224 hg w10 hbox hb; have n_ := zA_ (zb (zq zG76 hb)) (zA_ (zb (hbox)) (zA_ (zb ((by rw [hg]; exact (zo zG76) : w.heap.size ≤ gb224))) (zb ((by rw [hg]; exact (zo zG76) : w.heap.size ≤ gb224))))); clear HB; obtain ⟨HB, BK224, GW224, GE224⟩ := n_; clear hb hbox hg; have hcz11_0 : w10.cell? ⟨gb224, 0, none⟩ = some (.int .i64 0) := (zg BK224.out 0).trans rfl; have hcz11_1 : w10.cell? ⟨gb224, 1, none⟩ = some (.int .i64 0) := (zg BK224.out 1).trans rfl; have hcz11_2 : w10.cell? ⟨gb224, 2, none⟩ = some (.string (⟨#[]⟩ : ByteArray)) := (zg BK224.out 2).trans rfl; have hfz11_0 := zf BK224.out 0; have hfz11_1 := zf BK224.out 1; have hfz11_2 := zf BK224.out 2))
      have n0_ : Aside0 ((((w10.setCell ⟨gb224, 0, none⟩ (.int .i64 ((rd_T98 l0 x20_2).f0))).setCell ⟨gb224, 1, none⟩ (.int .i64 ((rd_T98 l0 x20_2).f1))).setCell ⟨gb224, 2, none⟩ (.string ((rd_T98 l0 x20_2).f2))).heap[gb224]? = some (.cells #[.int .i64 ((rd_T98 l0 x20_2).f0), .int .i64 ((rd_T98 l0 x20_2).f1), .string ((rd_T98 l0 x20_2).f2)] 98 (0, 0))) := ⟨zH1⟩
      have n1_ : Aside0 (Below w.heap.size w (((w10.setCell ⟨gb224, 0, none⟩ (.int .i64 ((rd_T98 l0 x20_2).f0))).setCell ⟨gb224, 1, none⟩ (.int .i64 ((rd_T98 l0 x20_2).f1))).setCell ⟨gb224, 2, none⟩ (.string ((rd_T98 l0 x20_2).f2)))) := ⟨zH61⟩
      (try clear BK224)
      (try clear HB)
      generalize (((w10.setCell ⟨gb224, 0, none⟩ (.int .i64 ((rd_T98 l0 x20_2).f0))).setCell ⟨gb224, 1, none⟩ (.int .i64 ((rd_T98 l0 x20_2).f1))).setCell ⟨gb224, 2, none⟩ (.string ((rd_T98 l0 x20_2).f2))) = w12 at n0_ n1_ ⊢
      have BK224 := n0_
      have HB := n1_
      clear n0_ n1_
      have n0_ := zb (zk BK224.out)
      have n1_ := zb (zd HB.out)
      clear BK224
      clear HB
      have BK224 := n0_
      have HB := n1_
      clear n0_ n1_
      refine start_ (n := 36) (S := fun w' => w'.cell? ⟨gb224, 0, none⟩ = some (.int .i64 ((rd_T98 l0 x20_2).f0)) ∧ w'.cell? ⟨gb224, 1, none⟩ = some (.int .i64 ((rd_T98 l0 x20_2).f1)) ∧ w'.cell? ⟨gb224, 2, none⟩ = some (.string ((rd_T98 l0 x20_2).f2))) (ds := []) b9A0 zG96 rfl rfl ⟨(zg BK224.out 0).trans rfl, (zg BK224.out 1).trans rfl, (zg BK224.out 2).trans rfl⟩ (fun hHeld => ?_); refine with_tabW impl_ShiftsOK.tab6 impl_ShiftsOK.bits6 (fun HT_ HW_ => ?_)
      generalize w12.drew = w13 at BK224 HB hHeld ⊢
      refine pure_ (i := 0) (N := some 25) (v := ?_) (a' := ?_) b9A1 rfl rfl (any_of HT_.out zG96) (fun _ _ _ h => h) (Or.inl ⟨by rfl, ?_⟩) ?_ ?_
      rotate_left
      ·intro w'
       go_simp
       with_reducible rfl
      rotate_left
      ·simp only [Act.put, List.setIfInBounds_toArray, List.set_cons_zero, List.set_cons_succ, i64_w, i32_w]
       rfl
      refine take_ (i := 1) (N := some 26) (v := ?_) (a' := ?_) b9A2 rfl rfl (take_ofW HT_.out HW_.out zG96) (fun _ _ _ h => h) (Or.inl ⟨by rfl, ?_⟩) hHeld ?_ ?_
      rotate_left
      ·rintro w' ⟨s0, s1, s2⟩
       go_simp
       with_reducible rfl
      rotate_left
      ·simp only [Act.put, List.setIfInBounds_toArray, List.set_cons_zero, List.set_cons_succ, i64_w, i32_w]
       rfl
      refine pure_ (i := 2) (N := some 27) (v := ?_) (a' := ?_) b9A3 rfl rfl (any_of HT_.out zG96) (fun _ _ _ h => h) (Or.inl ⟨by rfl, ?_⟩) ?_ ?_
      rotate_left
      ·intro w'
       go_simp
       with_reducible rfl
      rotate_left
      ·simp only [Act.put, List.setIfInBounds_toArray, List.set_cons_zero, List.set_cons_succ, i64_w, i32_w]
       rfl
      refine pure_ (i := 3) (N := some 28) (v := ?_) (a' := ?_) b9A4 rfl rfl (any_of HT_.out zG96) (fun _ _ _ h => h) (Or.inl ⟨by rfl, ?_⟩) ?_ ?_
      rotate_left
      ·intro w'
       go_simp
       with_reducible rfl
      rotate_left
      ·simp only [Act.put, List.setIfInBounds_toArray, List.set_cons_zero, List.set_cons_succ, i64_w, i32_w]
       rfl
      refine pure_ (i := 4) (N := some 29) (v := undef) (a' := ?_) b9A5 rfl rfl (any_of HT_.out zG96) (fun _ _ _ h => h) (Or.inr ⟨by rfl, rfl⟩) ?_ ?_
      rotate_left
      ·simp only [Act.put, List.setIfInBounds_toArray, List.set_cons_zero, List.set_cons_succ, i64_w, i32_w]
       rfl
      refine pure_ (i := 5) (N := some 30) (v := undef) (a' := ?_) #[true, true, true, true, true, true, false, false, false, false, false, false, false, false, false, false, false, false, false, false, false, false, false, false, false, false, false, false, false, false, false, false, false, false, false, false] rfl rfl (any_of HT_.out zG96) (fun _ _ _ h => h) (Or.inr ⟨by rfl, rfl⟩) ?_ ?_
      rotate_left
      ·simp only [Act.put, List.setIfInBounds_toArray, List.set_cons_zero, List.set_cons_succ, i64_w, i32_w]
       rfl
      refine pure_ (i := 6) (N := some 31) (v := undef) (a' := ?_) b9A6 rfl rfl (any_of HT_.out zG96) (fun _ _ _ h => h) (Or.inr ⟨by rfl, rfl⟩) ?_ ?_
      rotate_left
      ·simp only [Act.put, List.setIfInBounds_toArray, List.set_cons_zero, List.set_cons_succ, i64_w, i32_w]
       rfl
      refine pure_ (i := 7) (N := some 32) (v := undef) (a' := ?_) b9A7 rfl rfl (any_of HT_.out zG96) (fun _ _ _ h => h) (Or.inr ⟨by rfl, rfl⟩) ?_ ?_
      rotate_left
      ·simp only [Act.put, List.setIfInBounds_toArray, List.set_cons_zero, List.set_cons_succ, i64_w, i32_w]
       rfl
      refine pure_ (i := 8) (N := some 33) (v := undef) (a' := ?_) b9A8 rfl rfl (any_of HT_.out zG96) (fun _ _ _ h => h) (Or.inr ⟨by rfl, rfl⟩) ?_ ?_
      rotate_left
      ·simp only [Act.put, List.setIfInBounds_toArray, List.set_cons_zero, List.set_cons_succ, i64_w, i32_w]
       rfl
      refine pure_ (i := 9) (N := some 34) (v := ?_) (a' := ?_) b9A9 rfl rfl (any_of HT_.out zG96) (fun _ _ _ h => h) (Or.inl ⟨by rfl, ?_⟩) ?_ ?_
      rotate_left
      ·intro w'
       go_simp
       with_reducible rfl
      rotate_left
      ·simp only [Act.put, List.setIfInBounds_toArray, List.set_cons_zero, List.set_cons_succ, i64_w, i32_w]
       rfl
      refine pure_ (i := 10) (N := some 35) (v := ?_) (a' := ?_) b9A10 rfl rfl (any_of HT_.out zG96) (fun _ _ _ h => h) (Or.inl ⟨by rfl, ?_⟩) ?_ ?_
      rotate_left
      ·intro w'
       go_simp
       with_reducible rfl
      rotate_left
      ·simp only [Act.put, List.setIfInBounds_toArray, List.set_cons_zero, List.set_cons_succ, i64_w, i32_w]
       rfl
      refine pure_ (i := 11) (N := some 36) (v := undef) (a' := ?_) b9A11 rfl rfl (any_of HT_.out zG96) (fun _ _ _ h => h) (Or.inr ⟨by rfl, rfl⟩) ?_ ?_
      rotate_left
      ·simp only [Act.put, List.setIfInBounds_toArray, List.set_cons_zero, List.set_cons_succ, i64_w, i32_w]
       rfl
      refine pure_ (i := 12) (N := some 37) (v := undef) (a' := ?_) b9A12 rfl rfl (any_of HT_.out zG96) (fun _ _ _ h => h) (Or.inr ⟨by rfl, rfl⟩) ?_ ?_
      rotate_left
      ·simp only [Act.put, List.setIfInBounds_toArray, List.set_cons_zero, List.set_cons_succ, i64_w, i32_w]
       rfl
      refine pure_ (i := 13) (N := some 38) (v := undef) (a' := ?_) b9A13 rfl rfl (any_of HT_.out zG96) (fun _ _ _ h => h) (Or.inr ⟨by rfl, rfl⟩) ?_ ?_
      rotate_left
      ·simp only [Act.put, List.setIfInBounds_toArray, List.set_cons_zero, List.set_cons_succ, i64_w, i32_w]
       rfl
      refine pure_ (i := 14) (N := some 39) (v := ?_) (a' := ?_) b9A14 rfl rfl (any_of HT_.out zG96) (fun _ _ _ h => h) (Or.inl ⟨by rfl, ?_⟩) ?_ ?_
      rotate_left
      ·intro w'
       go_simp
       with_reducible rfl
      rotate_left
      ·simp only [Act.put, List.setIfInBounds_toArray, List.set_cons_zero, List.set_cons_succ, i64_w, i32_w]
       rfl
      refine pure_ (i := 15) (N := some 40) (v := ?_) (a' := ?_) b9A15 rfl rfl (any_of HT_.out zG96) (fun _ _ _ h => h) (Or.inl ⟨by rfl, ?_⟩) ?_ ?_
      rotate_left
      ·intro w'
       go_simp
       with_reducible rfl
      rotate_left
      ·simp only [Act.put, List.setIfInBounds_toArray, List.set_cons_zero, List.set_cons_succ, i64_w, i32_w]
       rfl
      refine pure_ (i := 16) (N := some 41) (v := undef) (a' := ?_) b9A16 rfl rfl (any_of HT_.out zG96) (fun _ _ _ h => h) (Or.inr ⟨by rfl, rfl⟩) ?_ ?_
      rotate_left
      ·simp only [Act.put, List.setIfInBounds_toArray, List.set_cons_zero, List.set_cons_succ, i64_w, i32_w]
       rfl
      refine pure_ (i := 17) (N := some 42) (v := undef) (a' := ?_) b9A17 rfl rfl (any_of HT_.out zG96) (fun _ _ _ h => h) (Or.inr ⟨by rfl, rfl⟩) ?_ ?_
      rotate_left
      ·simp only [Act.put, List.setIfInBounds_toArray, List.set_cons_zero, List.set_cons_succ, i64_w, i32_w]
       rfl
      refine pure_ (i := 18) (N := some 43) (v := undef) (a' := ?_) b9A18 rfl rfl (any_of HT_.out zG96) (fun _ _ _ h => h) (Or.inr ⟨by rfl, rfl⟩) ?_ ?_
      rotate_left
      ·simp only [Act.put, List.setIfInBounds_toArray, List.set_cons_zero, List.set_cons_succ, i64_w, i32_w]
       rfl
      refine pure_ (i := 19) (N := some 44) (v := undef) (a' := ?_) b9A19 rfl rfl (any_of HT_.out zG96) (fun _ _ _ h => h) (Or.inr ⟨by rfl, rfl⟩) ?_ ?_
      rotate_left
      ·simp only [Act.put, List.setIfInBounds_toArray, List.set_cons_zero, List.set_cons_succ, i64_w, i32_w]
       rfl
      refine pure_ (i := 20) (N := some 45) (v := ?_) (a' := ?_) b9A20 rfl rfl (any_of HT_.out zG96) (fun _ _ _ h => h) (Or.inl ⟨by rfl, ?_⟩) ?_ ?_
      rotate_left
      ·intro w'
       go_simp
       with_reducible rfl
      rotate_left
      ·simp only [Act.put, List.setIfInBounds_toArray, List.set_cons_zero, List.set_cons_succ, i64_w, i32_w]
       rfl
      refine pure_ (i := 21) (N := some 46) (v := ?_) (a' := ?_) b9A21 rfl rfl (any_of HT_.out zG96) (fun _ _ _ h => h) (Or.inl ⟨by rfl, ?_⟩) ?_ ?_
      rotate_left
      ·intro w'
       go_simp
       with_reducible rfl
      rotate_left
      ·simp only [Act.put, List.setIfInBounds_toArray, List.set_cons_zero, List.set_cons_succ, i64_w, i32_w]
       rfl
      refine pure_ (i := 22) (N := some 47) (v := undef) (a' := ?_) b9A22 rfl rfl (any_of HT_.out zG96) (fun _ _ _ h => h) (Or.inr ⟨by rfl, rfl⟩) ?_ ?_
      rotate_left
      ·simp only [Act.put, List.setIfInBounds_toArray, List.set_cons_zero, List.set_cons_succ, i64_w, i32_w]
       rfl
      refine pure_ (i := 23) (N := some 48) (v := undef) (a' := ?_) b9A23 rfl rfl (any_of HT_.out zG96) (fun _ _ _ h => h) (Or.inr ⟨by rfl, rfl⟩) ?_ ?_
      rotate_left
      ·simp only [Act.put, List.setIfInBounds_toArray, List.set_cons_zero, List.set_cons_succ, i64_w, i32_w]
       rfl
      refine pure_ (i := 24) (N := some 49) (v := undef) (a' := ?_) b9A24 rfl rfl (any_of HT_.out zG96) (fun _ _ _ h => h) (Or.inr ⟨by rfl, rfl⟩) ?_ ?_
      rotate_left
      ·simp only [Act.put, List.setIfInBounds_toArray, List.set_cons_zero, List.set_cons_succ, i64_w, i32_w]
       rfl
      refine pure_ (i := 25) (N := some 50) (v := undef) (a' := ?_) b9A25 rfl rfl (any_of HT_.out zG96) (fun _ _ _ h => h) (Or.inr ⟨by rfl, rfl⟩) ?_ ?_
      rotate_left
      ·simp only [Act.put, List.setIfInBounds_toArray, List.set_cons_zero, List.set_cons_succ, i64_w, i32_w]
       rfl
      refine pure_ (i := 26) (N := some 51) (v := undef) (a' := ?_) b9A32 rfl rfl (any_of HT_.out zG96) (fun _ _ _ h => h) (Or.inr ⟨by rfl, rfl⟩) ?_ ?_
      rotate_left
      ·simp only [Act.put, List.setIfInBounds_toArray, List.set_cons_zero, List.set_cons_succ, i64_w, i32_w]
       rfl
      refine pure_ (i := 27) (N := some 52) (v := undef) (a' := ?_) b9A33 rfl rfl (any_of HT_.out zG96) (fun _ _ _ h => h) (Or.inr ⟨by rfl, rfl⟩) ?_ ?_
      rotate_left
      ·simp only [Act.put, List.setIfInBounds_toArray, List.set_cons_zero, List.set_cons_succ, i64_w, i32_w]
       rfl
      refine pure_ (i := 28) (N := some 53) (v := undef) (a' := ?_) b9A34 rfl rfl (any_of HT_.out zG96) (fun _ _ _ h => h) (Or.inr ⟨by rfl, rfl⟩) ?_ ?_
      rotate_left
      ·simp only [Act.put, List.setIfInBounds_toArray, List.set_cons_zero, List.set_cons_succ, i64_w, i32_w]
       rfl
      refine pure_ (i := 29) (N := some 54) (v := undef) (a' := ?_) b9A35 rfl rfl (any_of HT_.out zG96) (fun _ _ _ h => h) (Or.inr ⟨by rfl, rfl⟩) ?_ ?_
      rotate_left
      ·simp only [Act.put, List.setIfInBounds_toArray, List.set_cons_zero, List.set_cons_succ, i64_w, i32_w]
       rfl
      refine pure_ (i := 30) (N := some 55) (v := undef) (a' := ?_) b9A36 rfl rfl (any_of HT_.out zG96) (fun _ _ _ h => h) (Or.inr ⟨by rfl, rfl⟩) ?_ ?_
      rotate_left
      ·simp only [Act.put, List.setIfInBounds_toArray, List.set_cons_zero, List.set_cons_succ, i64_w, i32_w]
       rfl
      refine pure_ (i := 31) (N := some 56) (v := undef) (a' := ?_) b9A26 rfl rfl (any_of HT_.out zG96) (fun _ _ _ h => h) (Or.inr ⟨by rfl, rfl⟩) ?_ ?_
      rotate_left
      ·simp only [Act.put, List.setIfInBounds_toArray, List.set_cons_zero, List.set_cons_succ, i64_w, i32_w]
       rfl
      refine pure_ (i := 32) (N := some 57) (v := undef) (a' := ?_) b9A27 rfl rfl (any_of HT_.out zG96) (fun _ _ _ h => h) (Or.inr ⟨by rfl, rfl⟩) ?_ ?_
      rotate_left
      ·simp only [Act.put, List.setIfInBounds_toArray, List.set_cons_zero, List.set_cons_succ, i64_w, i32_w]
       rfl
      refine pure_ (i := 33) (N := some 58) (v := undef) (a' := ?_) b9A28 rfl rfl (any_of HT_.out zG96) (fun _ _ _ h => h) (Or.inr ⟨by rfl, rfl⟩) ?_ ?_
      rotate_left
      ·simp only [Act.put, List.setIfInBounds_toArray, List.set_cons_zero, List.set_cons_succ, i64_w, i32_w]
       rfl
      refine pure_ (i := 34) (N := some 59) (v := undef) (a' := ?_) b9A29 rfl rfl (any_of HT_.out zG96) (fun _ _ _ h => h) (Or.inr ⟨by rfl, rfl⟩) ?_ ?_
      rotate_left
      ·simp only [Act.put, List.setIfInBounds_toArray, List.set_cons_zero, List.set_cons_succ, i64_w, i32_w]
       rfl
      refine pure_ (i := 35) (N := some 60) (v := ?_) (a' := ?_) b9A30 rfl rfl (any_of HT_.out zG96) (fun _ _ _ h => h) (Or.inl ⟨by rfl, ?_⟩) ?_ ?_
      rotate_left
      ·intro w'
       go_simp
       with_reducible rfl
      rotate_left
      ·simp only [Act.put, List.setIfInBounds_toArray, List.set_cons_zero, List.set_cons_succ, i64_w, i32_w]
       rfl
      refine done_ (done_of HT_.out zG96) ?_
      try go_wp2
      go_ret
      exact zH22
     rw [if_neg c9] at H
     have c9b0 := decide_eq_false c9
     clear c9
     by_cases c14 : ((rd_T98 l0 x20_2).f0) ≥ ((rd_T98 l0 x20_2).f1)
     ·rw [if_pos c14] at H
      have c14b0 : decide (((rd_T98 l0 x20_2).f1) ≤ ((rd_T98 l0 x20_2).f0)) = true := decide_eq_true c14
      clear c14
      obtain rfl := Option.some.inj H
      have p223 : 0 ≤ (x20_2 : Int) := zO
      have q223 : x20_2 < (l0.length : Int) := zO
      obtain ⟨ad223, e223, hx223_0, hx223_1, hx223_2⟩ := at_T98 HR0.out x20_2 p223 q223
      cases e223
      replace hx223_0 := (HB.out.cell (za w _ hx223_0)).trans hx223_0
      replace hx223_1 := (HB.out.cell (za w _ hx223_1)).trans hx223_1
      replace hx223_2 := (HB.out.cell (za w _ hx223_2)).trans hx223_2
      replace p223 := eq_true p223
      replace q223 := eq_true q223
      try go_wp2_with (first | ((with_reducible refine gate_dst (N := 6) rfl ?_); (try (refine gate_guard (by rfl) ?_; dsimp only)); refine box_event ?hg (N := 6) ?hd (cs := #[.int .i64 0, .int .i64 0, .string (⟨#[]⟩ : ByteArray)]) (t := 98) ?hr ?_; (case hd => rfl); (case hg => rfl); (case hr => exact zH100); intro gb224 hg w15 hbox hb; have n_ := zA_ (zb (zq zG76 hb)) (zA_ (zb (hbox)) (zA_ (zb ((by rw [hg]; exact (zo zG76) : w.heap.size ≤ gb224))) (zb ((by rw [hg]; exact (zo zG76) : w.heap.size ≤ gb224))))); clear HB; obtain ⟨HB, BK224, GW224, GE224⟩ := n_; clear hb hbox hg; have hcz16_0 : w15.cell? ⟨gb224, 0, none⟩ = some (.int .i64 0) := (zg BK224.out 0).trans rfl; have hcz16_1 : w15.cell? ⟨gb224, 1, none⟩ = some (.int .i64 0) := (zg BK224.out 1).trans rfl; have hcz16_2 : w15.cell? ⟨gb224, 2, none⟩ = some (.string (⟨#[]⟩ : ByteArray)) := (zg BK224.out 2).trans rfl; have hfz16_0 := zf BK224.out 0; have hfz16_1 := zf BK224.out 1; have hfz16_2 := zf BK224.out 2))
      have n0_ : Aside0 ((((w15.setCell ⟨gb224, 0, none⟩ (.int .i64 ((rd_T98 l0 x20_2).f0))).setCell ⟨gb224, 1, none⟩ (.int .i64 ((rd_T98 l0 x20_2).f1))).setCell ⟨gb224, 2, none⟩ (.string ((rd_T98 l0 x20_2).f2))).heap[gb224]? = some (.cells #[.int .i64 ((rd_T98 l0 x20_2).f0), .int .i64 ((rd_T98 l0 x20_2).f1), .string ((rd_T98 l0 x20_2).f2)] 98 (0, 0))) := ⟨zH1⟩
      have n1_ : Aside0 (Below w.heap.size w (((w15.setCell ⟨gb224, 0, none⟩ (.int .i64 ((rd_T98 l0 x20_2).f0))).setCell ⟨gb224, 1, none⟩ (.int .i64 ((rd_T98 l0 x20_2).f1))).setCell ⟨gb224, 2, none⟩ (.string ((rd_T98 l0 x20_2).f2)))) := ⟨zH61⟩
      (try clear BK224)
      (try clear HB)
      generalize (((w15.setCell ⟨gb224, 0, none⟩ (.int .i64 ((rd_T98 l0 x20_2).f0))).setCell ⟨gb224, 1, none⟩ (.int .i64 ((rd_T98 l0 x20_2).f1))).setCell ⟨gb224, 2, none⟩ (.string ((rd_T98 l0 x20_2).f2))) = w17 at n0_ n1_ ⊢
      have BK224 := n0_
      have HB := n1_
      clear n0_ n1_
      have n0_ := zb (zk BK224.out)
      have n1_ := zb (zd HB.out)
      clear BK224
      clear HB
      have BK224 := n0_
      have HB := n1_
      clear n0_ n1_
      refine start_ (n := 36) (S := fun w' => w'.cell? ⟨gb224, 0, none⟩ = some (.int .i64 ((rd_T98 l0 x20_2).f0)) ∧ w'.cell? ⟨gb224, 1, none⟩ = some (.int .i64 ((rd_T98 l0 x20_2).f1)) ∧ w'.cell? ⟨gb224, 2, none⟩ = some (.string ((rd_T98 l0 x20_2).f2))) (ds := []) b9A0 zG96 rfl rfl ⟨(zg BK224.out 0).trans rfl, (zg BK224.out 1).trans rfl, (zg BK224.out 2).trans rfl⟩ (fun hHeld => ?_); refine with_tabW impl_ShiftsOK.tab6 impl_ShiftsOK.bits6 (fun HT_ HW_ => ?_)
      generalize w17.drew = w18 at BK224 HB hHeld ⊢
      refine pure_ (i := 0) (N := some 25) (v := ?_) (a' := ?_) b9A1 rfl rfl (any_of HT_.out zG96) (fun _ _ _ h => h) (Or.inl ⟨by rfl, ?_⟩) ?_ ?_
      rotate_left
      ·intro w'
       go_simp
       with_reducible rfl
      rotate_left
      ·simp only [Act.put, List.setIfInBounds_toArray, List.set_cons_zero, List.set_cons_succ, i64_w, i32_w]
       rfl
      refine take_ (i := 1) (N := some 26) (v := ?_) (a' := ?_) b9A2 rfl rfl (take_ofW HT_.out HW_.out zG96) (fun _ _ _ h => h) (Or.inl ⟨by rfl, ?_⟩) hHeld ?_ ?_
      rotate_left
      ·rintro w' ⟨s0, s1, s2⟩
       go_simp
       with_reducible rfl
      rotate_left
      ·simp only [Act.put, List.setIfInBounds_toArray, List.set_cons_zero, List.set_cons_succ, i64_w, i32_w]
       rfl
      refine pure_ (i := 2) (N := some 27) (v := ?_) (a' := ?_) b9A3 rfl rfl (any_of HT_.out zG96) (fun _ _ _ h => h) (Or.inl ⟨by rfl, ?_⟩) ?_ ?_
      rotate_left
      ·intro w'
       go_simp
       with_reducible rfl
      rotate_left
      ·simp only [Act.put, List.setIfInBounds_toArray, List.set_cons_zero, List.set_cons_succ, i64_w, i32_w]
       rfl
      refine pure_ (i := 3) (N := some 28) (v := ?_) (a' := ?_) b9A4 rfl rfl (any_of HT_.out zG96) (fun _ _ _ h => h) (Or.inl ⟨by rfl, ?_⟩) ?_ ?_
      rotate_left
      ·intro w'
       go_simp
       with_reducible rfl
      rotate_left
      ·simp only [Act.put, List.setIfInBounds_toArray, List.set_cons_zero, List.set_cons_succ, i64_w, i32_w]
       rfl
      refine pure_ (i := 4) (N := some 29) (v := ?_) (a' := ?_) b9A5 rfl rfl (any_of HT_.out zG96) (fun _ _ _ h => h) (Or.inl ⟨by rfl, ?_⟩) ?_ ?_
      rotate_left
      ·intro w'
       go_simp
       with_reducible rfl
      rotate_left
      ·simp only [Act.put, List.setIfInBounds_toArray, List.set_cons_zero, List.set_cons_succ, i64_w, i32_w]
       rfl
      refine pure_ (i := 6) (N := some 31) (v := ?_) (a' := ?_) b9A31 rfl rfl (any_of HT_.out zG96) (fun _ _ _ h => h) (Or.inl ⟨by rfl, ?_⟩) ?_ ?_
      rotate_left
      ·intro w'
       go_simp
       with_reducible rfl
      rotate_left
      ·simp only [Act.put, List.setIfInBounds_toArray, List.set_cons_zero, List.set_cons_succ, i64_w, i32_w]
       rfl
      refine take_ (i := 5) (N := some 30) (v := ?_) (a' := ?_) b9A6 rfl rfl (take_ofW HT_.out HW_.out zG96) (fun _ _ _ h => h) (Or.inl ⟨by rfl, ?_⟩) hHeld ?_ ?_
      rotate_left
      ·rintro w' ⟨s0, s1, s2⟩
       go_simp
       with_reducible rfl
      rotate_left
      ·simp only [Act.put, List.setIfInBounds_toArray, List.set_cons_zero, List.set_cons_succ, i64_w, i32_w]
       rfl
      refine take_ (i := 7) (N := some 32) (v := ?_) (a' := ?_) b9A7 rfl rfl (take_ofW HT_.out HW_.out zG96) (fun _ _ _ h => h) (Or.inl ⟨by rfl, ?_⟩) hHeld ?_ ?_
      rotate_left
      ·rintro w' ⟨s0, s1, s2⟩
       go_simp
       with_reducible rfl
      rotate_left
      ·simp only [Act.put, List.setIfInBounds_toArray, List.set_cons_zero, List.set_cons_succ, i64_w, i32_w]
       rfl
      refine pure_ (i := 8) (N := some 33) (v := ?_) (a' := ?_) b9A8 rfl rfl (any_of HT_.out zG96) (fun _ _ _ h => h) (Or.inl ⟨by rfl, ?_⟩) ?_ ?_
      rotate_left
      ·intro w'
       go_simp
       with_reducible rfl
      rotate_left
      ·simp only [Act.put, List.setIfInBounds_toArray, List.set_cons_zero, List.set_cons_succ, i64_w, i32_w]
       rfl
      refine pure_ (i := 9) (N := some 34) (v := ?_) (a' := ?_) b9A9 rfl rfl (any_of HT_.out zG96) (fun _ _ _ h => h) (Or.inl ⟨by rfl, ?_⟩) ?_ ?_
      rotate_left
      ·intro w'
       go_simp
       with_reducible rfl
      rotate_left
      ·simp only [Act.put, List.setIfInBounds_toArray, List.set_cons_zero, List.set_cons_succ, i64_w, i32_w]
       rfl
      refine pure_ (i := 10) (N := some 35) (v := ?_) (a' := ?_) b9A10 rfl rfl (any_of HT_.out zG96) (fun _ _ _ h => h) (Or.inl ⟨by rfl, ?_⟩) ?_ ?_
      rotate_left
      ·intro w'
       go_simp
       with_reducible rfl
      rotate_left
      ·simp only [Act.put, List.setIfInBounds_toArray, List.set_cons_zero, List.set_cons_succ, i64_w, i32_w]
       rfl
      refine pure_ (i := 11) (N := some 36) (v := undef) (a' := ?_) b9A11 rfl rfl (any_of HT_.out zG96) (fun _ _ _ h => h) (Or.inr ⟨by rfl, rfl⟩) ?_ ?_
      rotate_left
      ·simp only [Act.put, List.setIfInBounds_toArray, List.set_cons_zero, List.set_cons_succ, i64_w, i32_w]
       rfl
      refine pure_ (i := 12) (N := some 37) (v := undef) (a' := ?_) b9A12 rfl rfl (any_of HT_.out zG96) (fun _ _ _ h => h) (Or.inr ⟨by rfl, rfl⟩) ?_ ?_
      rotate_left
      ·simp only [Act.put, List.setIfInBounds_toArray, List.set_cons_zero, List.set_cons_succ, i64_w, i32_w]
       rfl
      refine pure_ (i := 13) (N := some 38) (v := undef) (a' := ?_) b9A13 rfl rfl (any_of HT_.out zG96) (fun _ _ _ h => h) (Or.inr ⟨by rfl, rfl⟩) ?_ ?_
      rotate_left
      ·simp only [Act.put, List.setIfInBounds_toArray, List.set_cons_zero, List.set_cons_succ, i64_w, i32_w]
       rfl
      refine pure_ (i := 14) (N := some 39) (v := ?_) (a' := ?_) b9A14 rfl rfl (any_of HT_.out zG96) (fun _ _ _ h => h) (Or.inl ⟨by rfl, ?_⟩) ?_ ?_
      rotate_left
      ·intro w'
       go_simp
       with_reducible rfl
      rotate_left
      ·simp only [Act.put, List.setIfInBounds_toArray, List.set_cons_zero, List.set_cons_succ, i64_w, i32_w]
       rfl
      refine pure_ (i := 15) (N := some 40) (v := ?_) (a' := ?_) b9A15 rfl rfl (any_of HT_.out zG96) (fun _ _ _ h => h) (Or.inl ⟨by rfl, ?_⟩) ?_ ?_
      rotate_left
      ·intro w'
       go_simp
       with_reducible rfl
      rotate_left
      ·simp only [Act.put, List.setIfInBounds_toArray, List.set_cons_zero, List.set_cons_succ, i64_w, i32_w]
       rfl
      refine pure_ (i := 16) (N := some 41) (v := undef) (a' := ?_) b9A16 rfl rfl (any_of HT_.out zG96) (fun _ _ _ h => h) (Or.inr ⟨by rfl, rfl⟩) ?_ ?_
      rotate_left
      ·simp only [Act.put, List.setIfInBounds_toArray, List.set_cons_zero, List.set_cons_succ, i64_w, i32_w]
       rfl
      refine pure_ (i := 17) (N := some 42) (v := undef) (a' := ?_) b9A17 rfl rfl (any_of HT_.out zG96) (fun _ _ _ h => h) (Or.inr ⟨by rfl, rfl⟩) ?_ ?_
      rotate_left
      ·simp only [Act.put, List.setIfInBounds_toArray, List.set_cons_zero, List.set_cons_succ, i64_w, i32_w]
       rfl
      refine pure_ (i := 18) (N := some 43) (v := undef) (a' := ?_) b9A18 rfl rfl (any_of HT_.out zG96) (fun _ _ _ h => h) (Or.inr ⟨by rfl, rfl⟩) ?_ ?_
      rotate_left
      ·simp only [Act.put, List.setIfInBounds_toArray, List.set_cons_zero, List.set_cons_succ, i64_w, i32_w]
       rfl
      refine pure_ (i := 19) (N := some 44) (v := undef) (a' := ?_) b9A19 rfl rfl (any_of HT_.out zG96) (fun _ _ _ h => h) (Or.inr ⟨by rfl, rfl⟩) ?_ ?_
      rotate_left
      ·simp only [Act.put, List.setIfInBounds_toArray, List.set_cons_zero, List.set_cons_succ, i64_w, i32_w]
       rfl
      refine pure_ (i := 20) (N := some 45) (v := ?_) (a' := ?_) b9A20 rfl rfl (any_of HT_.out zG96) (fun _ _ _ h => h) (Or.inl ⟨by rfl, ?_⟩) ?_ ?_
      rotate_left
      ·intro w'
       go_simp
       with_reducible rfl
      rotate_left
      ·simp only [Act.put, List.setIfInBounds_toArray, List.set_cons_zero, List.set_cons_succ, i64_w, i32_w]
       rfl
      refine pure_ (i := 21) (N := some 46) (v := ?_) (a' := ?_) b9A21 rfl rfl (any_of HT_.out zG96) (fun _ _ _ h => h) (Or.inl ⟨by rfl, ?_⟩) ?_ ?_
      rotate_left
      ·intro w'
       go_simp
       with_reducible rfl
      rotate_left
      ·simp only [Act.put, List.setIfInBounds_toArray, List.set_cons_zero, List.set_cons_succ, i64_w, i32_w]
       rfl
      refine pure_ (i := 22) (N := some 47) (v := undef) (a' := ?_) b9A22 rfl rfl (any_of HT_.out zG96) (fun _ _ _ h => h) (Or.inr ⟨by rfl, rfl⟩) ?_ ?_
      rotate_left
      ·simp only [Act.put, List.setIfInBounds_toArray, List.set_cons_zero, List.set_cons_succ, i64_w, i32_w]
       rfl
      refine pure_ (i := 23) (N := some 48) (v := undef) (a' := ?_) b9A23 rfl rfl (any_of HT_.out zG96) (fun _ _ _ h => h) (Or.inr ⟨by rfl, rfl⟩) ?_ ?_
      rotate_left
      ·simp only [Act.put, List.setIfInBounds_toArray, List.set_cons_zero, List.set_cons_succ, i64_w, i32_w]
       rfl
      refine pure_ (i := 24) (N := some 49) (v := undef) (a' := ?_) b9A24 rfl rfl (any_of HT_.out zG96) (fun _ _ _ h => h) (Or.inr ⟨by rfl, rfl⟩) ?_ ?_
      rotate_left
      ·simp only [Act.put, List.setIfInBounds_toArray, List.set_cons_zero, List.set_cons_succ, i64_w, i32_w]
       rfl
      refine pure_ (i := 25) (N := some 50) (v := undef) (a' := ?_) b9A25 rfl rfl (any_of HT_.out zG96) (fun _ _ _ h => h) (Or.inr ⟨by rfl, rfl⟩) ?_ ?_
      rotate_left
      ·simp only [Act.put, List.setIfInBounds_toArray, List.set_cons_zero, List.set_cons_succ, i64_w, i32_w]
       rfl
      refine pure_ (i := 26) (N := some 51) (v := undef) (a' := ?_) b9A32 rfl rfl (any_of HT_.out zG96) (fun _ _ _ h => h) (Or.inr ⟨by rfl, rfl⟩) ?_ ?_
      rotate_left
      ·simp only [Act.put, List.setIfInBounds_toArray, List.set_cons_zero, List.set_cons_succ, i64_w, i32_w]
       rfl
      refine pure_ (i := 27) (N := some 52) (v := undef) (a' := ?_) b9A33 rfl rfl (any_of HT_.out zG96) (fun _ _ _ h => h) (Or.inr ⟨by rfl, rfl⟩) ?_ ?_
      rotate_left
      ·simp only [Act.put, List.setIfInBounds_toArray, List.set_cons_zero, List.set_cons_succ, i64_w, i32_w]
       rfl
      refine pure_ (i := 28) (N := some 53) (v := undef) (a' := ?_) b9A34 rfl rfl (any_of HT_.out zG96) (fun _ _ _ h => h) (Or.inr ⟨by rfl, rfl⟩) ?_ ?_
      rotate_left
      ·simp only [Act.put, List.setIfInBounds_toArray, List.set_cons_zero, List.set_cons_succ, i64_w, i32_w]
       rfl
      refine pure_ (i := 29) (N := some 54) (v := undef) (a' := ?_) b9A35 rfl rfl (any_of HT_.out zG96) (fun _ _ _ h => h) (Or.inr ⟨by rfl, rfl⟩) ?_ ?_
      rotate_left
      ·simp only [Act.put, List.setIfInBounds_toArray, List.set_cons_zero, List.set_cons_succ, i64_w, i32_w]
       rfl
      refine pure_ (i := 30) (N := some 55) (v := undef) (a' := ?_) b9A36 rfl rfl (any_of HT_.out zG96) (fun _ _ _ h => h) (Or.inr ⟨by rfl, rfl⟩) ?_ ?_
      rotate_left
      ·simp only [Act.put, List.setIfInBounds_toArray, List.set_cons_zero, List.set_cons_succ, i64_w, i32_w]
       rfl
      refine pure_ (i := 31) (N := some 56) (v := undef) (a' := ?_) b9A26 rfl rfl (any_of HT_.out zG96) (fun _ _ _ h => h) (Or.inr ⟨by rfl, rfl⟩) ?_ ?_
      rotate_left
      ·simp only [Act.put, List.setIfInBounds_toArray, List.set_cons_zero, List.set_cons_succ, i64_w, i32_w]
       rfl
      refine pure_ (i := 32) (N := some 57) (v := undef) (a' := ?_) b9A27 rfl rfl (any_of HT_.out zG96) (fun _ _ _ h => h) (Or.inr ⟨by rfl, rfl⟩) ?_ ?_
      rotate_left
      ·simp only [Act.put, List.setIfInBounds_toArray, List.set_cons_zero, List.set_cons_succ, i64_w, i32_w]
       rfl
      refine pure_ (i := 33) (N := some 58) (v := undef) (a' := ?_) b9A28 rfl rfl (any_of HT_.out zG96) (fun _ _ _ h => h) (Or.inr ⟨by rfl, rfl⟩) ?_ ?_
      rotate_left
      ·simp only [Act.put, List.setIfInBounds_toArray, List.set_cons_zero, List.set_cons_succ, i64_w, i32_w]
       rfl
      refine pure_ (i := 34) (N := some 59) (v := undef) (a' := ?_) b9A29 rfl rfl (any_of HT_.out zG96) (fun _ _ _ h => h) (Or.inr ⟨by rfl, rfl⟩) ?_ ?_
      rotate_left
      ·simp only [Act.put, List.setIfInBounds_toArray, List.set_cons_zero, List.set_cons_succ, i64_w, i32_w]
       rfl
      refine pure_ (i := 35) (N := some 60) (v := ?_) (a' := ?_) b9A30 rfl rfl (any_of HT_.out zG96) (fun _ _ _ h => h) (Or.inl ⟨by rfl, ?_⟩) ?_ ?_
      rotate_left
      ·intro w'
       go_simp
       with_reducible rfl
      rotate_left
      ·simp only [Act.put, List.setIfInBounds_toArray, List.set_cons_zero, List.set_cons_succ, i64_w, i32_w]
       rfl
      refine done_ (done_of HT_.out zG96) ?_
      try go_wp2
      go_ret
      exact zH22
     rw [if_neg c14] at H
     have c14b0 : decide (((rd_T98 l0 x20_2).f1) ≤ ((rd_T98 l0 x20_2).f0)) = false := decide_eq_false c14
     clear c14
     by_cases c19 : ((rd_T98 l0 x20_2).f1) > 10080
     ·rw [if_pos c19] at H
      have c19b0 : decide (10080 < ((rd_T98 l0 x20_2).f1)) = true := decide_eq_true c19
      clear c19
      obtain rfl := Option.some.inj H
      have p223 : 0 ≤ (x20_2 : Int) := zO
      have q223 : x20_2 < (l0.length : Int) := zO
      obtain ⟨ad223, e223, hx223_0, hx223_1, hx223_2⟩ := at_T98 HR0.out x20_2 p223 q223
      cases e223
      replace hx223_0 := (HB.out.cell (za w _ hx223_0)).trans hx223_0
      replace hx223_1 := (HB.out.cell (za w _ hx223_1)).trans hx223_1
      replace hx223_2 := (HB.out.cell (za w _ hx223_2)).trans hx223_2
      replace p223 := eq_true p223
      replace q223 := eq_true q223
      try go_wp2_with (first | ((with_reducible refine gate_dst (N := 6) rfl ?_); (try (refine gate_guard (by rfl) ?_; dsimp only)); refine box_event ?hg (N := 6) ?hd (cs := #[.int .i64 0, .int .i64 0, .string (⟨#[]⟩ : ByteArray)]) (t := 98) ?hr ?_; (case hd => rfl); (case hg => rfl); (case hr => exact zH100); intro gb224 hg w20 hbox hb; have n_ := zA_ (zb (zq zG76 hb)) (zA_ (zb (hbox)) (zA_ (zb ((by rw [hg]; exact (zo zG76) : w.heap.size ≤ gb224))) (zb ((by rw [hg]; exact (zo zG76) : w.heap.size ≤ gb224))))); clear HB; obtain ⟨HB, BK224, GW224, GE224⟩ := n_; clear hb hbox hg; have hcz21_0 : w20.cell? ⟨gb224, 0, none⟩ = some (.int .i64 0) := (zg BK224.out 0).trans rfl; have hcz21_1 : w20.cell? ⟨gb224, 1, none⟩ = some (.int .i64 0) := (zg BK224.out 1).trans rfl; have hcz21_2 : w20.cell? ⟨gb224, 2, none⟩ = some (.string (⟨#[]⟩ : ByteArray)) := (zg BK224.out 2).trans rfl; have hfz21_0 := zf BK224.out 0; have hfz21_1 := zf BK224.out 1; have hfz21_2 := zf BK224.out 2))
      have n0_ : Aside0 ((((w20.setCell ⟨gb224, 0, none⟩ (.int .i64 ((rd_T98 l0 x20_2).f0))).setCell ⟨gb224, 1, none⟩ (.int .i64 ((rd_T98 l0 x20_2).f1))).setCell ⟨gb224, 2, none⟩ (.string ((rd_T98 l0 x20_2).f2))).heap[gb224]? = some (.cells #[.int .i64 ((rd_T98 l0 x20_2).f0), .int .i64 ((rd_T98 l0 x20_2).f1), .string ((rd_T98 l0 x20_2).f2)] 98 (0, 0))) := ⟨zH1⟩
      have n1_ : Aside0 (Below w.heap.size w (((w20.setCell ⟨gb224, 0, none⟩ (.int .i64 ((rd_T98 l0 x20_2).f0))).setCell ⟨gb224, 1, none⟩ (.int .i64 ((rd_T98 l0 x20_2).f1))).setCell ⟨gb224, 2, none⟩ (.string ((rd_T98 l0 x20_2).f2)))) := ⟨zH61⟩
      (try clear BK224)
      (try clear HB)
      generalize (((w20.setCell ⟨gb224, 0, none⟩ (.int .i64 ((rd_T98 l0 x20_2).f0))).setCell ⟨gb224, 1, none⟩ (.int .i64 ((rd_T98 l0 x20_2).f1))).setCell ⟨gb224, 2, none⟩ (.string ((rd_T98 l0 x20_2).f2))) = w22 at n0_ n1_ ⊢
      have BK224 := n0_
      have HB := n1_
      clear n0_ n1_
      have n0_ := zb (zk BK224.out)
      have n1_ := zb (zd HB.out)
      clear BK224
      clear HB
      have BK224 := n0_
      have HB := n1_
      clear n0_ n1_
      refine start_ (n := 36) (S := fun w' => w'.cell? ⟨gb224, 0, none⟩ = some (.int .i64 ((rd_T98 l0 x20_2).f0)) ∧ w'.cell? ⟨gb224, 1, none⟩ = some (.int .i64 ((rd_T98 l0 x20_2).f1)) ∧ w'.cell? ⟨gb224, 2, none⟩ = some (.string ((rd_T98 l0 x20_2).f2))) (ds := []) b9A0 zG96 rfl rfl ⟨(zg BK224.out 0).trans rfl, (zg BK224.out 1).trans rfl, (zg BK224.out 2).trans rfl⟩ (fun hHeld => ?_); refine with_tabW impl_ShiftsOK.tab6 impl_ShiftsOK.bits6 (fun HT_ HW_ => ?_)
      generalize w22.drew = w23 at BK224 HB hHeld ⊢
      refine pure_ (i := 0) (N := some 25) (v := ?_) (a' := ?_) b9A1 rfl rfl (any_of HT_.out zG96) (fun _ _ _ h => h) (Or.inl ⟨by rfl, ?_⟩) ?_ ?_
      rotate_left
      ·intro w'
       go_simp
       with_reducible rfl
      rotate_left
      ·simp only [Act.put, List.setIfInBounds_toArray, List.set_cons_zero, List.set_cons_succ, i64_w, i32_w]
       rfl
      refine take_ (i := 1) (N := some 26) (v := ?_) (a' := ?_) b9A2 rfl rfl (take_ofW HT_.out HW_.out zG96) (fun _ _ _ h => h) (Or.inl ⟨by rfl, ?_⟩) hHeld ?_ ?_
      rotate_left
      ·rintro w' ⟨s0, s1, s2⟩
       go_simp
       with_reducible rfl
      rotate_left
      ·simp only [Act.put, List.setIfInBounds_toArray, List.set_cons_zero, List.set_cons_succ, i64_w, i32_w]
       rfl
      refine pure_ (i := 2) (N := some 27) (v := ?_) (a' := ?_) b9A3 rfl rfl (any_of HT_.out zG96) (fun _ _ _ h => h) (Or.inl ⟨by rfl, ?_⟩) ?_ ?_
      rotate_left
      ·intro w'
       go_simp
       with_reducible rfl
      rotate_left
      ·simp only [Act.put, List.setIfInBounds_toArray, List.set_cons_zero, List.set_cons_succ, i64_w, i32_w]
       rfl
      refine pure_ (i := 3) (N := some 28) (v := ?_) (a' := ?_) b9A4 rfl rfl (any_of HT_.out zG96) (fun _ _ _ h => h) (Or.inl ⟨by rfl, ?_⟩) ?_ ?_
      rotate_left
      ·intro w'
       go_simp
       with_reducible rfl
      rotate_left
      ·simp only [Act.put, List.setIfInBounds_toArray, List.set_cons_zero, List.set_cons_succ, i64_w, i32_w]
       rfl
      refine pure_ (i := 4) (N := some 29) (v := ?_) (a' := ?_) b9A5 rfl rfl (any_of HT_.out zG96) (fun _ _ _ h => h) (Or.inl ⟨by rfl, ?_⟩) ?_ ?_
      rotate_left
      ·intro w'
       go_simp
       with_reducible rfl
      rotate_left
      ·simp only [Act.put, List.setIfInBounds_toArray, List.set_cons_zero, List.set_cons_succ, i64_w, i32_w]
       rfl
      refine pure_ (i := 6) (N := some 31) (v := ?_) (a' := ?_) b9A31 rfl rfl (any_of HT_.out zG96) (fun _ _ _ h => h) (Or.inl ⟨by rfl, ?_⟩) ?_ ?_
      rotate_left
      ·intro w'
       go_simp
       with_reducible rfl
      rotate_left
      ·simp only [Act.put, List.setIfInBounds_toArray, List.set_cons_zero, List.set_cons_succ, i64_w, i32_w]
       rfl
      refine take_ (i := 5) (N := some 30) (v := ?_) (a' := ?_) b9A6 rfl rfl (take_ofW HT_.out HW_.out zG96) (fun _ _ _ h => h) (Or.inl ⟨by rfl, ?_⟩) hHeld ?_ ?_
      rotate_left
      ·rintro w' ⟨s0, s1, s2⟩
       go_simp
       with_reducible rfl
      rotate_left
      ·simp only [Act.put, List.setIfInBounds_toArray, List.set_cons_zero, List.set_cons_succ, i64_w, i32_w]
       rfl
      refine take_ (i := 7) (N := some 32) (v := ?_) (a' := ?_) b9A7 rfl rfl (take_ofW HT_.out HW_.out zG96) (fun _ _ _ h => h) (Or.inl ⟨by rfl, ?_⟩) hHeld ?_ ?_
      rotate_left
      ·rintro w' ⟨s0, s1, s2⟩
       go_simp
       with_reducible rfl
      rotate_left
      ·simp only [Act.put, List.setIfInBounds_toArray, List.set_cons_zero, List.set_cons_succ, i64_w, i32_w]
       rfl
      refine pure_ (i := 8) (N := some 33) (v := ?_) (a' := ?_) b9A8 rfl rfl (any_of HT_.out zG96) (fun _ _ _ h => h) (Or.inl ⟨by rfl, ?_⟩) ?_ ?_
      rotate_left
      ·intro w'
       go_simp
       with_reducible rfl
      rotate_left
      ·simp only [Act.put, List.setIfInBounds_toArray, List.set_cons_zero, List.set_cons_succ, i64_w, i32_w]
       rfl
      refine pure_ (i := 9) (N := some 34) (v := ?_) (a' := ?_) b9A9 rfl rfl (any_of HT_.out zG96) (fun _ _ _ h => h) (Or.inl ⟨by rfl, ?_⟩) ?_ ?_
      rotate_left
      ·intro w'
       go_simp
       with_reducible rfl
      rotate_left
      ·simp only [Act.put, List.setIfInBounds_toArray, List.set_cons_zero, List.set_cons_succ, i64_w, i32_w]
       rfl
      refine pure_ (i := 10) (N := some 35) (v := ?_) (a' := ?_) b9A10 rfl rfl (any_of HT_.out zG96) (fun _ _ _ h => h) (Or.inl ⟨by rfl, ?_⟩) ?_ ?_
      rotate_left
      ·intro w'
       go_simp
       with_reducible rfl
      rotate_left
      ·simp only [Act.put, List.setIfInBounds_toArray, List.set_cons_zero, List.set_cons_succ, i64_w, i32_w]
       rfl
      refine pure_ (i := 11) (N := some 36) (v := ?_) (a' := ?_) b9A11 rfl rfl (any_of HT_.out zG96) (fun _ _ _ h => h) (Or.inl ⟨by rfl, ?_⟩) ?_ ?_
      rotate_left
      ·intro w'
       go_simp
       with_reducible rfl
      rotate_left
      ·simp only [Act.put, List.setIfInBounds_toArray, List.set_cons_zero, List.set_cons_succ, i64_w, i32_w]
       rfl
      refine take_ (i := 12) (N := some 37) (v := ?_) (a' := ?_) b9A12 rfl rfl (take_ofW HT_.out HW_.out zG96) (fun _ _ _ h => h) (Or.inl ⟨by rfl, ?_⟩) hHeld ?_ ?_
      rotate_left
      ·rintro w' ⟨s0, s1, s2⟩
       go_simp
       with_reducible rfl
      rotate_left
      ·simp only [Act.put, List.setIfInBounds_toArray, List.set_cons_zero, List.set_cons_succ, i64_w, i32_w]
       rfl
      refine pure_ (i := 13) (N := some 38) (v := ?_) (a' := ?_) b9A13 rfl rfl (any_of HT_.out zG96) (fun _ _ _ h => h) (Or.inl ⟨by rfl, ?_⟩) ?_ ?_
      rotate_left
      ·intro w'
       go_simp
       with_reducible rfl
      rotate_left
      ·simp only [Act.put, List.setIfInBounds_toArray, List.set_cons_zero, List.set_cons_succ, i64_w, i32_w]
       rfl
      refine pure_ (i := 14) (N := some 39) (v := ?_) (a' := ?_) b9A14 rfl rfl (any_of HT_.out zG96) (fun _ _ _ h => h) (Or.inl ⟨by rfl, ?_⟩) ?_ ?_
      rotate_left
      ·intro w'
       go_simp
       with_reducible rfl
      rotate_left
      ·simp only [Act.put, List.setIfInBounds_toArray, List.set_cons_zero, List.set_cons_succ, i64_w, i32_w]
       rfl
      refine pure_ (i := 15) (N := some 40) (v := ?_) (a' := ?_) b9A15 rfl rfl (any_of HT_.out zG96) (fun _ _ _ h => h) (Or.inl ⟨by rfl, ?_⟩) ?_ ?_
      rotate_left
      ·intro w'
       go_simp
       with_reducible rfl
      rotate_left
      ·simp only [Act.put, List.setIfInBounds_toArray, List.set_cons_zero, List.set_cons_succ, i64_w, i32_w]
       rfl
      refine pure_ (i := 16) (N := some 41) (v := undef) (a' := ?_) b9A16 rfl rfl (any_of HT_.out zG96) (fun _ _ _ h => h) (Or.inr ⟨by rfl, rfl⟩) ?_ ?_
      rotate_left
      ·simp only [Act.put, List.setIfInBounds_toArray, List.set_cons_zero, List.set_cons_succ, i64_w, i32_w]
       rfl
      refine pure_ (i := 17) (N := some 42) (v := undef) (a' := ?_) b9A17 rfl rfl (any_of HT_.out zG96) (fun _ _ _ h => h) (Or.inr ⟨by rfl, rfl⟩) ?_ ?_
      rotate_left
      ·simp only [Act.put, List.setIfInBounds_toArray, List.set_cons_zero, List.set_cons_succ, i64_w, i32_w]
       rfl
      refine pure_ (i := 18) (N := some 43) (v := undef) (a' := ?_) b9A18 rfl rfl (any_of HT_.out zG96) (fun _ _ _ h => h) (Or.inr ⟨by rfl, rfl⟩) ?_ ?_
      rotate_left
      ·simp only [Act.put, List.setIfInBounds_toArray, List.set_cons_zero, List.set_cons_succ, i64_w, i32_w]
       rfl
      refine pure_ (i := 19) (N := some 44) (v := undef) (a' := ?_) b9A19 rfl rfl (any_of HT_.out zG96) (fun _ _ _ h => h) (Or.inr ⟨by rfl, rfl⟩) ?_ ?_
      rotate_left
      ·simp only [Act.put, List.setIfInBounds_toArray, List.set_cons_zero, List.set_cons_succ, i64_w, i32_w]
       rfl
      refine pure_ (i := 20) (N := some 45) (v := ?_) (a' := ?_) b9A20 rfl rfl (any_of HT_.out zG96) (fun _ _ _ h => h) (Or.inl ⟨by rfl, ?_⟩) ?_ ?_
      rotate_left
      ·intro w'
       go_simp
       with_reducible rfl
      rotate_left
      ·simp only [Act.put, List.setIfInBounds_toArray, List.set_cons_zero, List.set_cons_succ, i64_w, i32_w]
       rfl
      refine pure_ (i := 21) (N := some 46) (v := ?_) (a' := ?_) b9A21 rfl rfl (any_of HT_.out zG96) (fun _ _ _ h => h) (Or.inl ⟨by rfl, ?_⟩) ?_ ?_
      rotate_left
      ·intro w'
       go_simp
       with_reducible rfl
      rotate_left
      ·simp only [Act.put, List.setIfInBounds_toArray, List.set_cons_zero, List.set_cons_succ, i64_w, i32_w]
       rfl
      refine pure_ (i := 22) (N := some 47) (v := undef) (a' := ?_) b9A22 rfl rfl (any_of HT_.out zG96) (fun _ _ _ h => h) (Or.inr ⟨by rfl, rfl⟩) ?_ ?_
      rotate_left
      ·simp only [Act.put, List.setIfInBounds_toArray, List.set_cons_zero, List.set_cons_succ, i64_w, i32_w]
       rfl
      refine pure_ (i := 23) (N := some 48) (v := undef) (a' := ?_) b9A23 rfl rfl (any_of HT_.out zG96) (fun _ _ _ h => h) (Or.inr ⟨by rfl, rfl⟩) ?_ ?_
      rotate_left
      ·simp only [Act.put, List.setIfInBounds_toArray, List.set_cons_zero, List.set_cons_succ, i64_w, i32_w]
       rfl
      refine pure_ (i := 24) (N := some 49) (v := undef) (a' := ?_) b9A24 rfl rfl (any_of HT_.out zG96) (fun _ _ _ h => h) (Or.inr ⟨by rfl, rfl⟩) ?_ ?_
      rotate_left
      ·simp only [Act.put, List.setIfInBounds_toArray, List.set_cons_zero, List.set_cons_succ, i64_w, i32_w]
       rfl
      refine pure_ (i := 25) (N := some 50) (v := undef) (a' := ?_) b9A25 rfl rfl (any_of HT_.out zG96) (fun _ _ _ h => h) (Or.inr ⟨by rfl, rfl⟩) ?_ ?_
      rotate_left
      ·simp only [Act.put, List.setIfInBounds_toArray, List.set_cons_zero, List.set_cons_succ, i64_w, i32_w]
       rfl
      refine pure_ (i := 26) (N := some 51) (v := undef) (a' := ?_) b9A32 rfl rfl (any_of HT_.out zG96) (fun _ _ _ h => h) (Or.inr ⟨by rfl, rfl⟩) ?_ ?_
      rotate_left
      ·simp only [Act.put, List.setIfInBounds_toArray, List.set_cons_zero, List.set_cons_succ, i64_w, i32_w]
       rfl
      refine pure_ (i := 27) (N := some 52) (v := undef) (a' := ?_) b9A33 rfl rfl (any_of HT_.out zG96) (fun _ _ _ h => h) (Or.inr ⟨by rfl, rfl⟩) ?_ ?_
      rotate_left
      ·simp only [Act.put, List.setIfInBounds_toArray, List.set_cons_zero, List.set_cons_succ, i64_w, i32_w]
       rfl
      refine pure_ (i := 28) (N := some 53) (v := undef) (a' := ?_) b9A34 rfl rfl (any_of HT_.out zG96) (fun _ _ _ h => h) (Or.inr ⟨by rfl, rfl⟩) ?_ ?_
      rotate_left
      ·simp only [Act.put, List.setIfInBounds_toArray, List.set_cons_zero, List.set_cons_succ, i64_w, i32_w]
       rfl
      refine pure_ (i := 29) (N := some 54) (v := undef) (a' := ?_) b9A35 rfl rfl (any_of HT_.out zG96) (fun _ _ _ h => h) (Or.inr ⟨by rfl, rfl⟩) ?_ ?_
      rotate_left
      ·simp only [Act.put, List.setIfInBounds_toArray, List.set_cons_zero, List.set_cons_succ, i64_w, i32_w]
       rfl
      refine pure_ (i := 30) (N := some 55) (v := undef) (a' := ?_) b9A36 rfl rfl (any_of HT_.out zG96) (fun _ _ _ h => h) (Or.inr ⟨by rfl, rfl⟩) ?_ ?_
      rotate_left
      ·simp only [Act.put, List.setIfInBounds_toArray, List.set_cons_zero, List.set_cons_succ, i64_w, i32_w]
       rfl
      refine pure_ (i := 31) (N := some 56) (v := undef) (a' := ?_) b9A26 rfl rfl (any_of HT_.out zG96) (fun _ _ _ h => h) (Or.inr ⟨by rfl, rfl⟩) ?_ ?_
      rotate_left
      ·simp only [Act.put, List.setIfInBounds_toArray, List.set_cons_zero, List.set_cons_succ, i64_w, i32_w]
       rfl
      refine pure_ (i := 32) (N := some 57) (v := undef) (a' := ?_) b9A27 rfl rfl (any_of HT_.out zG96) (fun _ _ _ h => h) (Or.inr ⟨by rfl, rfl⟩) ?_ ?_
      rotate_left
      ·simp only [Act.put, List.setIfInBounds_toArray, List.set_cons_zero, List.set_cons_succ, i64_w, i32_w]
       rfl
      refine pure_ (i := 33) (N := some 58) (v := undef) (a' := ?_) b9A28 rfl rfl (any_of HT_.out zG96) (fun _ _ _ h => h) (Or.inr ⟨by rfl, rfl⟩) ?_ ?_
      rotate_left
      ·simp only [Act.put, List.setIfInBounds_toArray, List.set_cons_zero, List.set_cons_succ, i64_w, i32_w]
       rfl
      refine pure_ (i := 34) (N := some 59) (v := undef) (a' := ?_) b9A29 rfl rfl (any_of HT_.out zG96) (fun _ _ _ h => h) (Or.inr ⟨by rfl, rfl⟩) ?_ ?_
      rotate_left
      ·simp only [Act.put, List.setIfInBounds_toArray, List.set_cons_zero, List.set_cons_succ, i64_w, i32_w]
       rfl
      refine pure_ (i := 35) (N := some 60) (v := ?_) (a' := ?_) b9A30 rfl rfl (any_of HT_.out zG96) (fun _ _ _ h => h) (Or.inl ⟨by rfl, ?_⟩) ?_ ?_
      rotate_left
      ·intro w'
       go_simp
       with_reducible rfl
      rotate_left
      ·simp only [Act.put, List.setIfInBounds_toArray, List.set_cons_zero, List.set_cons_succ, i64_w, i32_w]
       rfl
      refine done_ (done_of HT_.out zG96) ?_
      try go_wp2
      go_ret
      exact zH22
     rw [if_neg c19] at H
     have c19b0 : decide (10080 < ((rd_T98 l0 x20_2).f1)) = false := decide_eq_false c19
     clear c19
     replace H := Option.bind_eq_some_iff.mp H
     obtain ⟨t225, A240, H⟩ := H
     replace H : (if t225 = true then (if x20_2 > 0 then (if 0 ≤ (wrap64 (x20_2 - 1)) then (if (wrap64 (x20_2 - 1)) < (l0.length : Int) then (if ((rd_T98 l0 x20_2).f0) < ((rd_T98 l0 (wrap64 (x20_2 - 1))).f0) then (some false) else (impl_ShiftsOK.l0 k2 l0 l1 l0 (l0.length : Int) (wrap64 (x20_2 + 1)))) else (none)) else (none)) else (impl_ShiftsOK.l0 k2 l0 l1 l0 (l0.length : Int) (wrap64 (x20_2 + 1)))) else (some false)) = some r := H
     have A24 := zb A240
     clear A240
     by_cases c25 : t225 = true
     rotate_left
     ·replace c25 := Bool.eq_false_iff.mpr c25
      subst c25
      have H1 : (some false) = some r := by rw [if_neg (show ¬ (false = true) by decide)] at H; exact H
      clear H
      have H := H1
      clear H1
      obtain rfl := Option.some.inj H
      have p223 : 0 ≤ (x20_2 : Int) := zO
      have q223 : x20_2 < (l0.length : Int) := zO
      obtain ⟨ad223, e223, hx223_0, hx223_1, hx223_2⟩ := at_T98 HR0.out x20_2 p223 q223
      cases e223
      replace hx223_0 := (HB.out.cell (za w _ hx223_0)).trans hx223_0
      replace hx223_1 := (HB.out.cell (za w _ hx223_1)).trans hx223_1
      replace hx223_2 := (HB.out.cell (za w _ hx223_2)).trans hx223_2
      replace p223 := eq_true p223
      replace q223 := eq_true q223
      try go_wp2_with (first | ((with_reducible refine gate_dst (N := 6) rfl ?_); (try (refine gate_guard (by rfl) ?_; dsimp only)); refine box_event ?hg (N := 6) ?hd (cs := #[.int .i64 0, .int .i64 0, .string (⟨#[]⟩ : ByteArray)]) (t := 98) ?hr ?_; (case hd => rfl); (case hg => rfl); (case hr => exact zH100); intro gb224 hg w43 hbox hb; have n_ := zA_ (zb (zq zG76 hb)) (zA_ (zb (hbox)) (zA_ (zb ((by rw [hg]; exact (zo zG76) : w.heap.size ≤ gb224))) (zb ((by rw [hg]; exact (zo zG76) : w.heap.size ≤ gb224))))); clear HB; obtain ⟨HB, BK224, GW224, GE224⟩ := n_; clear hb hbox hg; have hcz44_0 : w43.cell? ⟨gb224, 0, none⟩ = some (.int .i64 0) := (zg BK224.out 0).trans rfl; have hcz44_1 : w43.cell? ⟨gb224, 1, none⟩ = some (.int .i64 0) := (zg BK224.out 1).trans rfl; have hcz44_2 : w43.cell? ⟨gb224, 2, none⟩ = some (.string (⟨#[]⟩ : ByteArray)) := (zg BK224.out 2).trans rfl; have hfz44_0 := zf BK224.out 0; have hfz44_1 := zf BK224.out 1; have hfz44_2 := zf BK224.out 2))
      have n0_ : Aside0 ((((w43.setCell ⟨gb224, 0, none⟩ (.int .i64 ((rd_T98 l0 x20_2).f0))).setCell ⟨gb224, 1, none⟩ (.int .i64 ((rd_T98 l0 x20_2).f1))).setCell ⟨gb224, 2, none⟩ (.string ((rd_T98 l0 x20_2).f2))).heap[gb224]? = some (.cells #[.int .i64 ((rd_T98 l0 x20_2).f0), .int .i64 ((rd_T98 l0 x20_2).f1), .string ((rd_T98 l0 x20_2).f2)] 98 (0, 0))) := ⟨zH1⟩
      have n1_ : Aside0 (Below w.heap.size w (((w43.setCell ⟨gb224, 0, none⟩ (.int .i64 ((rd_T98 l0 x20_2).f0))).setCell ⟨gb224, 1, none⟩ (.int .i64 ((rd_T98 l0 x20_2).f1))).setCell ⟨gb224, 2, none⟩ (.string ((rd_T98 l0 x20_2).f2)))) := ⟨zH61⟩
      (try clear BK224)
      (try clear HB)
      generalize (((w43.setCell ⟨gb224, 0, none⟩ (.int .i64 ((rd_T98 l0 x20_2).f0))).setCell ⟨gb224, 1, none⟩ (.int .i64 ((rd_T98 l0 x20_2).f1))).setCell ⟨gb224, 2, none⟩ (.string ((rd_T98 l0 x20_2).f2))) = w45 at n0_ n1_ ⊢
      have BK224 := n0_
      have HB := n1_
      clear n0_ n1_
      have n0_ := zb (zk BK224.out)
      have n1_ := zb (zd HB.out)
      clear BK224
      clear HB
      have BK224 := n0_
      have HB := n1_
      clear n0_ n1_
      refine start_ (n := 36) (S := fun w' => w'.cell? ⟨gb224, 0, none⟩ = some (.int .i64 ((rd_T98 l0 x20_2).f0)) ∧ w'.cell? ⟨gb224, 1, none⟩ = some (.int .i64 ((rd_T98 l0 x20_2).f1)) ∧ w'.cell? ⟨gb224, 2, none⟩ = some (.string ((rd_T98 l0 x20_2).f2))) (ds := []) b9A0 zG96 rfl rfl ⟨(zg BK224.out 0).trans rfl, (zg BK224.out 1).trans rfl, (zg BK224.out 2).trans rfl⟩ (fun hHeld => ?_); refine with_tabW impl_ShiftsOK.tab6 impl_ShiftsOK.bits6 (fun HT_ HW_ => ?_)
      generalize w45.drew = w46 at BK224 HB hHeld ⊢
      refine pure_ (i := 0) (N := some 25) (v := ?_) (a' := ?_) b9A1 rfl rfl (any_of HT_.out zG96) (fun _ _ _ h => h) (Or.inl ⟨by rfl, ?_⟩) ?_ ?_
      rotate_left
      ·intro w'
       go_simp
       with_reducible rfl
      rotate_left
      ·simp only [Act.put, List.setIfInBounds_toArray, List.set_cons_zero, List.set_cons_succ, i64_w, i32_w]
       rfl
      refine take_ (i := 1) (N := some 26) (v := ?_) (a' := ?_) b9A2 rfl rfl (take_ofW HT_.out HW_.out zG96) (fun _ _ _ h => h) (Or.inl ⟨by rfl, ?_⟩) hHeld ?_ ?_
      rotate_left
      ·rintro w' ⟨s0, s1, s2⟩
       go_simp
       with_reducible rfl
      rotate_left
      ·simp only [Act.put, List.setIfInBounds_toArray, List.set_cons_zero, List.set_cons_succ, i64_w, i32_w]
       rfl
      refine pure_ (i := 2) (N := some 27) (v := ?_) (a' := ?_) b9A3 rfl rfl (any_of HT_.out zG96) (fun _ _ _ h => h) (Or.inl ⟨by rfl, ?_⟩) ?_ ?_
      rotate_left
      ·intro w'
       go_simp
       with_reducible rfl
      rotate_left
      ·simp only [Act.put, List.setIfInBounds_toArray, List.set_cons_zero, List.set_cons_succ, i64_w, i32_w]
       rfl
      refine pure_ (i := 3) (N := some 28) (v := ?_) (a' := ?_) b9A4 rfl rfl (any_of HT_.out zG96) (fun _ _ _ h => h) (Or.inl ⟨by rfl, ?_⟩) ?_ ?_
      rotate_left
      ·intro w'
       go_simp
       with_reducible rfl
      rotate_left
      ·simp only [Act.put, List.setIfInBounds_toArray, List.set_cons_zero, List.set_cons_succ, i64_w, i32_w]
       rfl
      refine pure_ (i := 4) (N := some 29) (v := ?_) (a' := ?_) b9A5 rfl rfl (any_of HT_.out zG96) (fun _ _ _ h => h) (Or.inl ⟨by rfl, ?_⟩) ?_ ?_
      rotate_left
      ·intro w'
       go_simp
       with_reducible rfl
      rotate_left
      ·simp only [Act.put, List.setIfInBounds_toArray, List.set_cons_zero, List.set_cons_succ, i64_w, i32_w]
       rfl
      refine pure_ (i := 6) (N := some 31) (v := ?_) (a' := ?_) b9A31 rfl rfl (any_of HT_.out zG96) (fun _ _ _ h => h) (Or.inl ⟨by rfl, ?_⟩) ?_ ?_
      rotate_left
      ·intro w'
       go_simp
       with_reducible rfl
      rotate_left
      ·simp only [Act.put, List.setIfInBounds_toArray, List.set_cons_zero, List.set_cons_succ, i64_w, i32_w]
       rfl
      refine take_ (i := 5) (N := some 30) (v := ?_) (a' := ?_) b9A6 rfl rfl (take_ofW HT_.out HW_.out zG96) (fun _ _ _ h => h) (Or.inl ⟨by rfl, ?_⟩) hHeld ?_ ?_
      rotate_left
      ·rintro w' ⟨s0, s1, s2⟩
       go_simp
       with_reducible rfl
      rotate_left
      ·simp only [Act.put, List.setIfInBounds_toArray, List.set_cons_zero, List.set_cons_succ, i64_w, i32_w]
       rfl
      refine take_ (i := 7) (N := some 32) (v := ?_) (a' := ?_) b9A7 rfl rfl (take_ofW HT_.out HW_.out zG96) (fun _ _ _ h => h) (Or.inl ⟨by rfl, ?_⟩) hHeld ?_ ?_
      rotate_left
      ·rintro w' ⟨s0, s1, s2⟩
       go_simp
       with_reducible rfl
      rotate_left
      ·simp only [Act.put, List.setIfInBounds_toArray, List.set_cons_zero, List.set_cons_succ, i64_w, i32_w]
       rfl
      refine pure_ (i := 8) (N := some 33) (v := ?_) (a' := ?_) b9A8 rfl rfl (any_of HT_.out zG96) (fun _ _ _ h => h) (Or.inl ⟨by rfl, ?_⟩) ?_ ?_
      rotate_left
      ·intro w'
       go_simp
       with_reducible rfl
      rotate_left
      ·simp only [Act.put, List.setIfInBounds_toArray, List.set_cons_zero, List.set_cons_succ, i64_w, i32_w]
       rfl
      refine pure_ (i := 9) (N := some 34) (v := ?_) (a' := ?_) b9A9 rfl rfl (any_of HT_.out zG96) (fun _ _ _ h => h) (Or.inl ⟨by rfl, ?_⟩) ?_ ?_
      rotate_left
      ·intro w'
       go_simp
       with_reducible rfl
      rotate_left
      ·simp only [Act.put, List.setIfInBounds_toArray, List.set_cons_zero, List.set_cons_succ, i64_w, i32_w]
       rfl
      refine pure_ (i := 10) (N := some 35) (v := ?_) (a' := ?_) b9A10 rfl rfl (any_of HT_.out zG96) (fun _ _ _ h => h) (Or.inl ⟨by rfl, ?_⟩) ?_ ?_
      rotate_left
      ·intro w'
       go_simp
       with_reducible rfl
      rotate_left
      ·simp only [Act.put, List.setIfInBounds_toArray, List.set_cons_zero, List.set_cons_succ, i64_w, i32_w]
       rfl
      refine pure_ (i := 11) (N := some 36) (v := ?_) (a' := ?_) b9A11 rfl rfl (any_of HT_.out zG96) (fun _ _ _ h => h) (Or.inl ⟨by rfl, ?_⟩) ?_ ?_
      rotate_left
      ·intro w'
       go_simp
       with_reducible rfl
      rotate_left
      ·simp only [Act.put, List.setIfInBounds_toArray, List.set_cons_zero, List.set_cons_succ, i64_w, i32_w]
       rfl
      refine take_ (i := 12) (N := some 37) (v := ?_) (a' := ?_) b9A12 rfl rfl (take_ofW HT_.out HW_.out zG96) (fun _ _ _ h => h) (Or.inl ⟨by rfl, ?_⟩) hHeld ?_ ?_
      rotate_left
      ·rintro w' ⟨s0, s1, s2⟩
       go_simp
       with_reducible rfl
      rotate_left
      ·simp only [Act.put, List.setIfInBounds_toArray, List.set_cons_zero, List.set_cons_succ, i64_w, i32_w]
       rfl
      refine pure_ (i := 13) (N := some 38) (v := ?_) (a' := ?_) b9A13 rfl rfl (any_of HT_.out zG96) (fun _ _ _ h => h) (Or.inl ⟨by rfl, ?_⟩) ?_ ?_
      rotate_left
      ·intro w'
       go_simp
       with_reducible rfl
      rotate_left
      ·simp only [Act.put, List.setIfInBounds_toArray, List.set_cons_zero, List.set_cons_succ, i64_w, i32_w]
       rfl
      refine pure_ (i := 14) (N := some 39) (v := ?_) (a' := ?_) b9A14 rfl rfl (any_of HT_.out zG96) (fun _ _ _ h => h) (Or.inl ⟨by rfl, ?_⟩) ?_ ?_
      rotate_left
      ·intro w'
       go_simp
       with_reducible rfl
      rotate_left
      ·simp only [Act.put, List.setIfInBounds_toArray, List.set_cons_zero, List.set_cons_succ, i64_w, i32_w]
       rfl
      refine pure_ (i := 15) (N := some 40) (v := ?_) (a' := ?_) b9A15 rfl rfl (any_of HT_.out zG96) (fun _ _ _ h => h) (Or.inl ⟨by rfl, ?_⟩) ?_ ?_
      rotate_left
      ·intro w'
       go_simp
       with_reducible rfl
      rotate_left
      ·simp only [Act.put, List.setIfInBounds_toArray, List.set_cons_zero, List.set_cons_succ, i64_w, i32_w]
       rfl
      refine pure_ (i := 16) (N := some 41) (v := ?_) (a' := ?_) b9A16 rfl rfl (any_of HT_.out zG96) (fun _ _ _ h => h) (Or.inl ⟨by rfl, ?_⟩) ?_ ?_
      rotate_left
      ·intro w'
       go_simp
       with_reducible rfl
      rotate_left
      ·simp only [Act.put, List.setIfInBounds_toArray, List.set_cons_zero, List.set_cons_succ, i64_w, i32_w]
       rfl
      refine take_ (i := 17) (N := some 42) (v := ?_) (a' := ?_) b9A17 rfl rfl (take_ofW HT_.out HW_.out zG96) (fun _ _ _ h => h) (Or.inl ⟨by rfl, ?_⟩) hHeld ?_ ?_
      rotate_left
      ·rintro w' ⟨s0, s1, s2⟩
       go_simp
       with_reducible rfl
      rotate_left
      ·simp only [Act.put, List.setIfInBounds_toArray, List.set_cons_zero, List.set_cons_succ, i64_w, i32_w]
       rfl
      refine one_ (i := 18) (N := some 43) b9A18 rfl rfl (one_of HT_.out zG96) (by decide) (fun K hK => ?_)
      refine goes_ Try.func71 zG96 rfl #[.string ((rd_T98 l0 x20_2).f2)] (by rfl) rfl rfl zG65 ?_
      with_reducible refine (impl_NameOK.calls k2 ((rd_T98 l0 x20_2).f2) false _ A24.out).mono ?_
      rintro e w' ⟨rfl, ⟨nd, rfl⟩⟩
      refine ⟨_, rfl, ?_⟩
      refine hK.out _ _ ⟨(zg BK224.out 0).trans rfl, (zg BK224.out 1).trans rfl, (zg BK224.out 2).trans rfl⟩ (fun hHeld => ?_)
      clear hK K
      refine norm_ (a' := ?_) ?_ ?_
      rotate_left
      ·show Act.put _ (some 43) _ = _
       simp only [Act.put, List.setIfInBounds_toArray, List.set_cons_zero, List.set_cons_succ, i64_w, i32_w]
       rfl
      refine pure_ (i := 19) (N := some 44) (v := ?_) (a' := ?_) b9A19 rfl rfl (any_of HT_.out zG96) (fun _ _ _ h => h) (Or.inl ⟨by rfl, ?_⟩) ?_ ?_
      rotate_left
      ·intro w'
       go_simp
       with_reducible rfl
      rotate_left
      ·simp only [Act.put, List.setIfInBounds_toArray, List.set_cons_zero, List.set_cons_succ, i64_w, i32_w]
       rfl
      refine pure_ (i := 20) (N := some 45) (v := ?_) (a' := ?_) b9A20 rfl rfl (any_of HT_.out zG96) (fun _ _ _ h => h) (Or.inl ⟨by rfl, ?_⟩) ?_ ?_
      rotate_left
      ·intro w'
       go_simp
       with_reducible rfl
      rotate_left
      ·simp only [Act.put, List.setIfInBounds_toArray, List.set_cons_zero, List.set_cons_succ, i64_w, i32_w]
       rfl
      refine pure_ (i := 21) (N := some 46) (v := ?_) (a' := ?_) b9A21 rfl rfl (any_of HT_.out zG96) (fun _ _ _ h => h) (Or.inl ⟨by rfl, ?_⟩) ?_ ?_
      rotate_left
      ·intro w'
       go_simp
       with_reducible rfl
      rotate_left
      ·simp only [Act.put, List.setIfInBounds_toArray, List.set_cons_zero, List.set_cons_succ, i64_w, i32_w]
       rfl
      refine pure_ (i := 22) (N := some 47) (v := undef) (a' := ?_) b9A22 rfl rfl (any_of HT_.out zG96) (fun _ _ _ h => h) (Or.inr ⟨by rfl, rfl⟩) ?_ ?_
      rotate_left
      ·simp only [Act.put, List.setIfInBounds_toArray, List.set_cons_zero, List.set_cons_succ, i64_w, i32_w]
       rfl
      refine pure_ (i := 23) (N := some 48) (v := undef) (a' := ?_) b9A23 rfl rfl (any_of HT_.out zG96) (fun _ _ _ h => h) (Or.inr ⟨by rfl, rfl⟩) ?_ ?_
      rotate_left
      ·simp only [Act.put, List.setIfInBounds_toArray, List.set_cons_zero, List.set_cons_succ, i64_w, i32_w]
       rfl
      refine pure_ (i := 24) (N := some 49) (v := undef) (a' := ?_) b9A24 rfl rfl (any_of HT_.out zG96) (fun _ _ _ h => h) (Or.inr ⟨by rfl, rfl⟩) ?_ ?_
      rotate_left
      ·simp only [Act.put, List.setIfInBounds_toArray, List.set_cons_zero, List.set_cons_succ, i64_w, i32_w]
       rfl
      refine pure_ (i := 25) (N := some 50) (v := undef) (a' := ?_) b9A25 rfl rfl (any_of HT_.out zG96) (fun _ _ _ h => h) (Or.inr ⟨by rfl, rfl⟩) ?_ ?_
      rotate_left
      ·simp only [Act.put, List.setIfInBounds_toArray, List.set_cons_zero, List.set_cons_succ, i64_w, i32_w]
       rfl
      refine pure_ (i := 26) (N := some 51) (v := undef) (a' := ?_) b9A32 rfl rfl (any_of HT_.out zG96) (fun _ _ _ h => h) (Or.inr ⟨by rfl, rfl⟩) ?_ ?_
      rotate_left
      ·simp only [Act.put, List.setIfInBounds_toArray, List.set_cons_zero, List.set_cons_succ, i64_w, i32_w]
       rfl
      refine pure_ (i := 27) (N := some 52) (v := undef) (a' := ?_) b9A33 rfl rfl (any_of HT_.out zG96) (fun _ _ _ h => h) (Or.inr ⟨by rfl, rfl⟩) ?_ ?_
      rotate_left
      ·simp only [Act.put, List.setIfInBounds_toArray, List.set_cons_zero, List.set_cons_succ, i64_w, i32_w]
       rfl
      refine pure_ (i := 28) (N := some 53) (v := undef) (a' := ?_) b9A34 rfl rfl (any_of HT_.out zG96) (fun _ _ _ h => h) (Or.inr ⟨by rfl, rfl⟩) ?_ ?_
      rotate_left
      ·simp only [Act.put, List.setIfInBounds_toArray, List.set_cons_zero, List.set_cons_succ, i64_w, i32_w]
       rfl
      refine pure_ (i := 29) (N := some 54) (v := undef) (a' := ?_) b9A35 rfl rfl (any_of HT_.out zG96) (fun _ _ _ h => h) (Or.inr ⟨by rfl, rfl⟩) ?_ ?_
      rotate_left
      ·simp only [Act.put, List.setIfInBounds_toArray, List.set_cons_zero, List.set_cons_succ, i64_w, i32_w]
       rfl
      refine pure_ (i := 30) (N := some 55) (v := undef) (a' := ?_) b9A36 rfl rfl (any_of HT_.out zG96) (fun _ _ _ h => h) (Or.inr ⟨by rfl, rfl⟩) ?_ ?_
      rotate_left
      ·simp only [Act.put, List.setIfInBounds_toArray, List.set_cons_zero, List.set_cons_succ, i64_w, i32_w]
       rfl
      refine pure_ (i := 31) (N := some 56) (v := undef) (a' := ?_) b9A26 rfl rfl (any_of HT_.out zG96) (fun _ _ _ h => h) (Or.inr ⟨by rfl, rfl⟩) ?_ ?_
      rotate_left
      ·simp only [Act.put, List.setIfInBounds_toArray, List.set_cons_zero, List.set_cons_succ, i64_w, i32_w]
       rfl
      refine pure_ (i := 32) (N := some 57) (v := undef) (a' := ?_) b9A27 rfl rfl (any_of HT_.out zG96) (fun _ _ _ h => h) (Or.inr ⟨by rfl, rfl⟩) ?_ ?_
      rotate_left
      ·simp only [Act.put, List.setIfInBounds_toArray, List.set_cons_zero, List.set_cons_succ, i64_w, i32_w]
       rfl
      refine pure_ (i := 33) (N := some 58) (v := undef) (a' := ?_) b9A28 rfl rfl (any_of HT_.out zG96) (fun _ _ _ h => h) (Or.inr ⟨by rfl, rfl⟩) ?_ ?_
      rotate_left
      ·simp only [Act.put, List.setIfInBounds_toArray, List.set_cons_zero, List.set_cons_succ, i64_w, i32_w]
       rfl
      refine pure_ (i := 34) (N := some 59) (v := undef) (a' := ?_) b9A29 rfl rfl (any_of HT_.out zG96) (fun _ _ _ h => h) (Or.inr ⟨by rfl, rfl⟩) ?_ ?_
      rotate_left
      ·simp only [Act.put, List.setIfInBounds_toArray, List.set_cons_zero, List.set_cons_succ, i64_w, i32_w]
       rfl
      refine pure_ (i := 35) (N := some 60) (v := ?_) (a' := ?_) b9A30 rfl rfl (any_of HT_.out zG96) (fun _ _ _ h => h) (Or.inl ⟨by rfl, ?_⟩) ?_ ?_
      rotate_left
      ·intro w'
       go_simp
       with_reducible rfl
      rotate_left
      ·simp only [Act.put, List.setIfInBounds_toArray, List.set_cons_zero, List.set_cons_succ, i64_w, i32_w]
       rfl
      refine done_ (done_of HT_.out zG96) ?_
      try go_wp2
      go_ret
      exact zH22
     subst c25
     have H1 : (if x20_2 > 0 then (if 0 ≤ (wrap64 (x20_2 - 1)) then (if (wrap64 (x20_2 - 1)) < (l0.length : Int) then (if ((rd_T98 l0 x20_2).f0) < ((rd_T98 l0 (wrap64 (x20_2 - 1))).f0) then (some false) else (impl_ShiftsOK.l0 k2 l0 l1 l0 (l0.length : Int) (wrap64 (x20_2 + 1)))) else (none)) else (none)) else (impl_ShiftsOK.l0 k2 l0 l1 l0 (l0.length : Int) (wrap64 (x20_2 + 1)))) = some r := by rw [if_pos rfl] at H; exact H
     clear H
     have H := H1
     clear H1
     by_cases c26 : x20_2 > 0
     rotate_left
     ·rw [if_neg c26] at H
      have c26b0 : decide (0 < x20_2) = false := decide_eq_false c26
      clear c26
      have H' := zb H
      clear H
      have p223 : 0 ≤ (x20_2 : Int) := zO
      have q223 : x20_2 < (l0.length : Int) := zO
      obtain ⟨ad223, e223, hx223_0, hx223_1, hx223_2⟩ := at_T98 HR0.out x20_2 p223 q223
      cases e223
      replace hx223_0 := (HB.out.cell (za w _ hx223_0)).trans hx223_0
      replace hx223_1 := (HB.out.cell (za w _ hx223_1)).trans hx223_1
      replace hx223_2 := (HB.out.cell (za w _ hx223_2)).trans hx223_2
      replace p223 := eq_true p223
      replace q223 := eq_true q223
      try go_wp2_with (first | ((with_reducible refine gate_dst (N := 6) rfl ?_); (try (refine gate_guard (by rfl) ?_; dsimp only)); refine box_event ?hg (N := 6) ?hd (cs := #[.int .i64 0, .int .i64 0, .string (⟨#[]⟩ : ByteArray)]) (t := 98) ?hr ?_; (case hd => rfl); (case hg => rfl); (case hr => exact zH100); intro gb224 hg w39 hbox hb; have n_ := zA_ (zb (zq zG76 hb)) (zA_ (zb (hbox)) (zA_ (zb ((by rw [hg]; exact (zo zG76) : w.heap.size ≤ gb224))) (zb ((by rw [hg]; exact (zo zG76) : w.heap.size ≤ gb224))))); clear HB; obtain ⟨HB, BK224, GW224, GE224⟩ := n_; clear hb hbox hg; have hcz40_0 : w39.cell? ⟨gb224, 0, none⟩ = some (.int .i64 0) := (zg BK224.out 0).trans rfl; have hcz40_1 : w39.cell? ⟨gb224, 1, none⟩ = some (.int .i64 0) := (zg BK224.out 1).trans rfl; have hcz40_2 : w39.cell? ⟨gb224, 2, none⟩ = some (.string (⟨#[]⟩ : ByteArray)) := (zg BK224.out 2).trans rfl; have hfz40_0 := zf BK224.out 0; have hfz40_1 := zf BK224.out 1; have hfz40_2 := zf BK224.out 2))
      have n0_ : Aside0 ((((w39.setCell ⟨gb224, 0, none⟩ (.int .i64 ((rd_T98 l0 x20_2).f0))).setCell ⟨gb224, 1, none⟩ (.int .i64 ((rd_T98 l0 x20_2).f1))).setCell ⟨gb224, 2, none⟩ (.string ((rd_T98 l0 x20_2).f2))).heap[gb224]? = some (.cells #[.int .i64 ((rd_T98 l0 x20_2).f0), .int .i64 ((rd_T98 l0 x20_2).f1), .string ((rd_T98 l0 x20_2).f2)] 98 (0, 0))) := ⟨zH1⟩
      have n1_ : Aside0 (Below w.heap.size w (((w39.setCell ⟨gb224, 0, none⟩ (.int .i64 ((rd_T98 l0 x20_2).f0))).setCell ⟨gb224, 1, none⟩ (.int .i64 ((rd_T98 l0 x20_2).f1))).setCell ⟨gb224, 2, none⟩ (.string ((rd_T98 l0 x20_2).f2)))) := ⟨zH61⟩
      (try clear BK224)
      (try clear HB)
      generalize (((w39.setCell ⟨gb224, 0, none⟩ (.int .i64 ((rd_T98 l0 x20_2).f0))).setCell ⟨gb224, 1, none⟩ (.int .i64 ((rd_T98 l0 x20_2).f1))).setCell ⟨gb224, 2, none⟩ (.string ((rd_T98 l0 x20_2).f2))) = w41 at n0_ n1_ ⊢
      have BK224 := n0_
      have HB := n1_
      clear n0_ n1_
      have n0_ := zb (zk BK224.out)
      have n1_ := zb (zd HB.out)
      clear BK224
      clear HB
      have BK224 := n0_
      have HB := n1_
      clear n0_ n1_
      refine start_ (n := 36) (S := fun w' => w'.cell? ⟨gb224, 0, none⟩ = some (.int .i64 ((rd_T98 l0 x20_2).f0)) ∧ w'.cell? ⟨gb224, 1, none⟩ = some (.int .i64 ((rd_T98 l0 x20_2).f1)) ∧ w'.cell? ⟨gb224, 2, none⟩ = some (.string ((rd_T98 l0 x20_2).f2))) (ds := []) b9A0 zG96 rfl rfl ⟨(zg BK224.out 0).trans rfl, (zg BK224.out 1).trans rfl, (zg BK224.out 2).trans rfl⟩ (fun hHeld => ?_); refine with_tabW impl_ShiftsOK.tab6 impl_ShiftsOK.bits6 (fun HT_ HW_ => ?_)
      generalize w41.drew = w42 at BK224 HB hHeld ⊢
      refine pure_ (i := 0) (N := some 25) (v := ?_) (a' := ?_) b9A1 rfl rfl (any_of HT_.out zG96) (fun _ _ _ h => h) (Or.inl ⟨by rfl, ?_⟩) ?_ ?_
      rotate_left
      ·intro w'
       go_simp
       with_reducible rfl
      rotate_left
      ·simp only [Act.put, List.setIfInBounds_toArray, List.set_cons_zero, List.set_cons_succ, i64_w, i32_w]
       rfl
      refine take_ (i := 1) (N := some 26) (v := ?_) (a' := ?_) b9A2 rfl rfl (take_ofW HT_.out HW_.out zG96) (fun _ _ _ h => h) (Or.inl ⟨by rfl, ?_⟩) hHeld ?_ ?_
      rotate_left
      ·rintro w' ⟨s0, s1, s2⟩
       go_simp
       with_reducible rfl
      rotate_left
      ·simp only [Act.put, List.setIfInBounds_toArray, List.set_cons_zero, List.set_cons_succ, i64_w, i32_w]
       rfl
      refine pure_ (i := 2) (N := some 27) (v := ?_) (a' := ?_) b9A3 rfl rfl (any_of HT_.out zG96) (fun _ _ _ h => h) (Or.inl ⟨by rfl, ?_⟩) ?_ ?_
      rotate_left
      ·intro w'
       go_simp
       with_reducible rfl
      rotate_left
      ·simp only [Act.put, List.setIfInBounds_toArray, List.set_cons_zero, List.set_cons_succ, i64_w, i32_w]
       rfl
      refine pure_ (i := 3) (N := some 28) (v := ?_) (a' := ?_) b9A4 rfl rfl (any_of HT_.out zG96) (fun _ _ _ h => h) (Or.inl ⟨by rfl, ?_⟩) ?_ ?_
      rotate_left
      ·intro w'
       go_simp
       with_reducible rfl
      rotate_left
      ·simp only [Act.put, List.setIfInBounds_toArray, List.set_cons_zero, List.set_cons_succ, i64_w, i32_w]
       rfl
      refine pure_ (i := 4) (N := some 29) (v := ?_) (a' := ?_) b9A5 rfl rfl (any_of HT_.out zG96) (fun _ _ _ h => h) (Or.inl ⟨by rfl, ?_⟩) ?_ ?_
      rotate_left
      ·intro w'
       go_simp
       with_reducible rfl
      rotate_left
      ·simp only [Act.put, List.setIfInBounds_toArray, List.set_cons_zero, List.set_cons_succ, i64_w, i32_w]
       rfl
      refine pure_ (i := 6) (N := some 31) (v := ?_) (a' := ?_) b9A31 rfl rfl (any_of HT_.out zG96) (fun _ _ _ h => h) (Or.inl ⟨by rfl, ?_⟩) ?_ ?_
      rotate_left
      ·intro w'
       go_simp
       with_reducible rfl
      rotate_left
      ·simp only [Act.put, List.setIfInBounds_toArray, List.set_cons_zero, List.set_cons_succ, i64_w, i32_w]
       rfl
      refine take_ (i := 5) (N := some 30) (v := ?_) (a' := ?_) b9A6 rfl rfl (take_ofW HT_.out HW_.out zG96) (fun _ _ _ h => h) (Or.inl ⟨by rfl, ?_⟩) hHeld ?_ ?_
      rotate_left
      ·rintro w' ⟨s0, s1, s2⟩
       go_simp
       with_reducible rfl
      rotate_left
      ·simp only [Act.put, List.setIfInBounds_toArray, List.set_cons_zero, List.set_cons_succ, i64_w, i32_w]
       rfl
      refine take_ (i := 7) (N := some 32) (v := ?_) (a' := ?_) b9A7 rfl rfl (take_ofW HT_.out HW_.out zG96) (fun _ _ _ h => h) (Or.inl ⟨by rfl, ?_⟩) hHeld ?_ ?_
      rotate_left
      ·rintro w' ⟨s0, s1, s2⟩
       go_simp
       with_reducible rfl
      rotate_left
      ·simp only [Act.put, List.setIfInBounds_toArray, List.set_cons_zero, List.set_cons_succ, i64_w, i32_w]
       rfl
      refine pure_ (i := 8) (N := some 33) (v := ?_) (a' := ?_) b9A8 rfl rfl (any_of HT_.out zG96) (fun _ _ _ h => h) (Or.inl ⟨by rfl, ?_⟩) ?_ ?_
      rotate_left
      ·intro w'
       go_simp
       with_reducible rfl
      rotate_left
      ·simp only [Act.put, List.setIfInBounds_toArray, List.set_cons_zero, List.set_cons_succ, i64_w, i32_w]
       rfl
      refine pure_ (i := 9) (N := some 34) (v := ?_) (a' := ?_) b9A9 rfl rfl (any_of HT_.out zG96) (fun _ _ _ h => h) (Or.inl ⟨by rfl, ?_⟩) ?_ ?_
      rotate_left
      ·intro w'
       go_simp
       with_reducible rfl
      rotate_left
      ·simp only [Act.put, List.setIfInBounds_toArray, List.set_cons_zero, List.set_cons_succ, i64_w, i32_w]
       rfl
      refine pure_ (i := 10) (N := some 35) (v := ?_) (a' := ?_) b9A10 rfl rfl (any_of HT_.out zG96) (fun _ _ _ h => h) (Or.inl ⟨by rfl, ?_⟩) ?_ ?_
      rotate_left
      ·intro w'
       go_simp
       with_reducible rfl
      rotate_left
      ·simp only [Act.put, List.setIfInBounds_toArray, List.set_cons_zero, List.set_cons_succ, i64_w, i32_w]
       rfl
      refine pure_ (i := 11) (N := some 36) (v := ?_) (a' := ?_) b9A11 rfl rfl (any_of HT_.out zG96) (fun _ _ _ h => h) (Or.inl ⟨by rfl, ?_⟩) ?_ ?_
      rotate_left
      ·intro w'
       go_simp
       with_reducible rfl
      rotate_left
      ·simp only [Act.put, List.setIfInBounds_toArray, List.set_cons_zero, List.set_cons_succ, i64_w, i32_w]
       rfl
      refine take_ (i := 12) (N := some 37) (v := ?_) (a' := ?_) b9A12 rfl rfl (take_ofW HT_.out HW_.out zG96) (fun _ _ _ h => h) (Or.inl ⟨by rfl, ?_⟩) hHeld ?_ ?_
      rotate_left
      ·rintro w' ⟨s0, s1, s2⟩
       go_simp
       with_reducible rfl
      rotate_left
      ·simp only [Act.put, List.setIfInBounds_toArray, List.set_cons_zero, List.set_cons_succ, i64_w, i32_w]
       rfl
      refine pure_ (i := 13) (N := some 38) (v := ?_) (a' := ?_) b9A13 rfl rfl (any_of HT_.out zG96) (fun _ _ _ h => h) (Or.inl ⟨by rfl, ?_⟩) ?_ ?_
      rotate_left
      ·intro w'
       go_simp
       with_reducible rfl
      rotate_left
      ·simp only [Act.put, List.setIfInBounds_toArray, List.set_cons_zero, List.set_cons_succ, i64_w, i32_w]
       rfl
      refine pure_ (i := 14) (N := some 39) (v := ?_) (a' := ?_) b9A14 rfl rfl (any_of HT_.out zG96) (fun _ _ _ h => h) (Or.inl ⟨by rfl, ?_⟩) ?_ ?_
      rotate_left
      ·intro w'
       go_simp
       with_reducible rfl
      rotate_left
      ·simp only [Act.put, List.setIfInBounds_toArray, List.set_cons_zero, List.set_cons_succ, i64_w, i32_w]
       rfl
      refine pure_ (i := 15) (N := some 40) (v := ?_) (a' := ?_) b9A15 rfl rfl (any_of HT_.out zG96) (fun _ _ _ h => h) (Or.inl ⟨by rfl, ?_⟩) ?_ ?_
      rotate_left
      ·intro w'
       go_simp
       with_reducible rfl
      rotate_left
      ·simp only [Act.put, List.setIfInBounds_toArray, List.set_cons_zero, List.set_cons_succ, i64_w, i32_w]
       rfl
      refine pure_ (i := 16) (N := some 41) (v := ?_) (a' := ?_) b9A16 rfl rfl (any_of HT_.out zG96) (fun _ _ _ h => h) (Or.inl ⟨by rfl, ?_⟩) ?_ ?_
      rotate_left
      ·intro w'
       go_simp
       with_reducible rfl
      rotate_left
      ·simp only [Act.put, List.setIfInBounds_toArray, List.set_cons_zero, List.set_cons_succ, i64_w, i32_w]
       rfl
      refine take_ (i := 17) (N := some 42) (v := ?_) (a' := ?_) b9A17 rfl rfl (take_ofW HT_.out HW_.out zG96) (fun _ _ _ h => h) (Or.inl ⟨by rfl, ?_⟩) hHeld ?_ ?_
      rotate_left
      ·rintro w' ⟨s0, s1, s2⟩
       go_simp
       with_reducible rfl
      rotate_left
      ·simp only [Act.put, List.setIfInBounds_toArray, List.set_cons_zero, List.set_cons_succ, i64_w, i32_w]
       rfl
      refine one_ (i := 18) (N := some 43) b9A18 rfl rfl (one_of HT_.out zG96) (by decide) (fun K hK => ?_)
      refine goes_ Try.func71 zG96 rfl #[.string ((rd_T98 l0 x20_2).f2)] (by rfl) rfl rfl zG65 ?_
      with_reducible refine (impl_NameOK.calls k2 ((rd_T98 l0 x20_2).f2) true _ A24.out).mono ?_
      rintro e w' ⟨rfl, ⟨nd, rfl⟩⟩
      refine ⟨_, rfl, ?_⟩
      refine hK.out _ _ ⟨(zg BK224.out 0).trans rfl, (zg BK224.out 1).trans rfl, (zg BK224.out 2).trans rfl⟩ (fun hHeld => ?_)
      clear hK K
      refine norm_ (a' := ?_) ?_ ?_
      rotate_left
      ·show Act.put _ (some 43) _ = _
       simp only [Act.put, List.setIfInBounds_toArray, List.set_cons_zero, List.set_cons_succ, i64_w, i32_w]
       rfl
      refine pure_ (i := 19) (N := some 44) (v := ?_) (a' := ?_) b9A19 rfl rfl (any_of HT_.out zG96) (fun _ _ _ h => h) (Or.inl ⟨by rfl, ?_⟩) ?_ ?_
      rotate_left
      ·intro w'
       go_simp
       with_reducible rfl
      rotate_left
      ·simp only [Act.put, List.setIfInBounds_toArray, List.set_cons_zero, List.set_cons_succ, i64_w, i32_w]
       rfl
      refine pure_ (i := 20) (N := some 45) (v := ?_) (a' := ?_) b9A20 rfl rfl (any_of HT_.out zG96) (fun _ _ _ h => h) (Or.inl ⟨by rfl, ?_⟩) ?_ ?_
      rotate_left
      ·intro w'
       go_simp
       with_reducible rfl
      rotate_left
      ·simp only [Act.put, List.setIfInBounds_toArray, List.set_cons_zero, List.set_cons_succ, i64_w, i32_w]
       rfl
      refine pure_ (i := 21) (N := some 46) (v := ?_) (a' := ?_) b9A21 rfl rfl (any_of HT_.out zG96) (fun _ _ _ h => h) (Or.inl ⟨by rfl, ?_⟩) ?_ ?_
      rotate_left
      ·intro w'
       go_simp
       with_reducible rfl
      rotate_left
      ·simp only [Act.put, List.setIfInBounds_toArray, List.set_cons_zero, List.set_cons_succ, i64_w, i32_w]
       rfl
      refine pure_ (i := 22) (N := some 47) (v := ?_) (a' := ?_) b9A22 rfl rfl (any_of HT_.out zG96) (fun _ _ _ h => h) (Or.inl ⟨by rfl, ?_⟩) ?_ ?_
      rotate_left
      ·intro w'
       go_simp
       with_reducible rfl
      rotate_left
      ·simp only [Act.put, List.setIfInBounds_toArray, List.set_cons_zero, List.set_cons_succ, i64_w, i32_w]
       rfl
      refine pure_ (i := 23) (N := some 48) (v := ?_) (a' := ?_) b9A23 rfl rfl (any_of HT_.out zG96) (fun _ _ _ h => h) (Or.inl ⟨by rfl, ?_⟩) ?_ ?_
      rotate_left
      ·intro w'
       go_simp
       with_reducible rfl
      rotate_left
      ·simp only [Act.put, List.setIfInBounds_toArray, List.set_cons_zero, List.set_cons_succ, i64_w, i32_w]
       rfl
      refine pure_ (i := 24) (N := some 49) (v := ?_) (a' := ?_) b9A24 rfl rfl (any_of HT_.out zG96) (fun _ _ _ h => h) (Or.inl ⟨by rfl, ?_⟩) ?_ ?_
      rotate_left
      ·intro w'
       go_simp
       with_reducible rfl
      rotate_left
      ·simp only [Act.put, List.setIfInBounds_toArray, List.set_cons_zero, List.set_cons_succ, i64_w, i32_w]
       rfl
      refine pure_ (i := 25) (N := some 50) (v := undef) (a' := ?_) b9A25 rfl rfl (any_of HT_.out zG96) (fun _ _ _ h => h) (Or.inr ⟨by rfl, rfl⟩) ?_ ?_
      rotate_left
      ·simp only [Act.put, List.setIfInBounds_toArray, List.set_cons_zero, List.set_cons_succ, i64_w, i32_w]
       rfl
      refine pure_ (i := 26) (N := some 51) (v := undef) (a' := ?_) b9A32 rfl rfl (any_of HT_.out zG96) (fun _ _ _ h => h) (Or.inr ⟨by rfl, rfl⟩) ?_ ?_
      rotate_left
      ·simp only [Act.put, List.setIfInBounds_toArray, List.set_cons_zero, List.set_cons_succ, i64_w, i32_w]
       rfl
      refine pure_ (i := 27) (N := some 52) (v := undef) (a' := ?_) b9A33 rfl rfl (any_of HT_.out zG96) (fun _ _ _ h => h) (Or.inr ⟨by rfl, rfl⟩) ?_ ?_
      rotate_left
      ·simp only [Act.put, List.setIfInBounds_toArray, List.set_cons_zero, List.set_cons_succ, i64_w, i32_w]
       rfl
      refine pure_ (i := 28) (N := some 53) (v := undef) (a' := ?_) b9A34 rfl rfl (any_of HT_.out zG96) (fun _ _ _ h => h) (Or.inr ⟨by rfl, rfl⟩) ?_ ?_
      rotate_left
      ·simp only [Act.put, List.setIfInBounds_toArray, List.set_cons_zero, List.set_cons_succ, i64_w, i32_w]
       rfl
      refine pure_ (i := 29) (N := some 54) (v := undef) (a' := ?_) b9A35 rfl rfl (any_of HT_.out zG96) (fun _ _ _ h => h) (Or.inr ⟨by rfl, rfl⟩) ?_ ?_
      rotate_left
      ·simp only [Act.put, List.setIfInBounds_toArray, List.set_cons_zero, List.set_cons_succ, i64_w, i32_w]
       rfl
      refine pure_ (i := 30) (N := some 55) (v := undef) (a' := ?_) b9A36 rfl rfl (any_of HT_.out zG96) (fun _ _ _ h => h) (Or.inr ⟨by rfl, rfl⟩) ?_ ?_
      rotate_left
      ·simp only [Act.put, List.setIfInBounds_toArray, List.set_cons_zero, List.set_cons_succ, i64_w, i32_w]
       rfl
      refine pure_ (i := 31) (N := some 56) (v := undef) (a' := ?_) b9A26 rfl rfl (any_of HT_.out zG96) (fun _ _ _ h => h) (Or.inr ⟨by rfl, rfl⟩) ?_ ?_
      rotate_left
      ·simp only [Act.put, List.setIfInBounds_toArray, List.set_cons_zero, List.set_cons_succ, i64_w, i32_w]
       rfl
      refine pure_ (i := 32) (N := some 57) (v := undef) (a' := ?_) b9A27 rfl rfl (any_of HT_.out zG96) (fun _ _ _ h => h) (Or.inr ⟨by rfl, rfl⟩) ?_ ?_
      rotate_left
      ·simp only [Act.put, List.setIfInBounds_toArray, List.set_cons_zero, List.set_cons_succ, i64_w, i32_w]
       rfl
      refine pure_ (i := 33) (N := some 58) (v := undef) (a' := ?_) b9A28 rfl rfl (any_of HT_.out zG96) (fun _ _ _ h => h) (Or.inr ⟨by rfl, rfl⟩) ?_ ?_
      rotate_left
      ·simp only [Act.put, List.setIfInBounds_toArray, List.set_cons_zero, List.set_cons_succ, i64_w, i32_w]
       rfl
      refine pure_ (i := 34) (N := some 59) (v := ?_) (a' := ?_) b9A29 rfl rfl (any_of HT_.out zG96) (fun _ _ _ h => h) (Or.inl ⟨by rfl, ?_⟩) ?_ ?_
      rotate_left
      ·intro w'
       go_simp
       with_reducible rfl
      rotate_left
      ·simp only [Act.put, List.setIfInBounds_toArray, List.set_cons_zero, List.set_cons_succ, i64_w, i32_w]
       rfl
      refine pure_ (i := 35) (N := some 60) (v := ?_) (a' := ?_) b9A30 rfl rfl (any_of HT_.out zG96) (fun _ _ _ h => h) (Or.inl ⟨by rfl, ?_⟩) ?_ ?_
      rotate_left
      ·intro w'
       go_simp
       with_reducible rfl
      rotate_left
      ·simp only [Act.put, List.setIfInBounds_toArray, List.set_cons_zero, List.set_cons_succ, i64_w, i32_w]
       rfl
      refine done_ (done_of HT_.out zG96) ?_
      try go_wp2
      go_roundg k2
      case measure => have := HJ2.out; have := HK2.out; omega
      case rel => exact ⟨(wrap64 (x20_2 + 1)), zG95, H', ⟨by have := HJ2.out; have := HK2.out; omega⟩, ⟨zH61⟩⟩
     rw [if_pos c26] at H
     have c26b0 : decide (0 < x20_2) = true := decide_eq_true c26
     clear c26
     obtain ⟨ji27, hji27⟩ : ∃ j_ : Int, (wrap64 (x20_2 - 1)) = j_ := ⟨_, rfl⟩
     replace H : (if 0 ≤ (ji27) then (if (ji27) < (l0.length : Int) then (if ((rd_T98 l0 x20_2).f0) < ((rd_T98 l0 (ji27)).f0) then (some false) else (impl_ShiftsOK.l0 k2 l0 l1 l0 (l0.length : Int) (wrap64 (x20_2 + 1)))) else (none)) else (none)) = some r := by first | (rw [hji27] at H; exact H) | (simp only [hji27] at H ⊢; exact H)
     (try rw [hji27] at A24)
     have hji27w : (IntKind.i64.wrap (x20_2 - 1)) = ji27 := (i64_w _).trans hji27
     by_cases c28 : 0 ≤ (ji27)
     rotate_left
     ·rw [if_neg c28] at H
      exact absurd H (by simp)
     rw [if_pos c28] at H
     have c28b0 := decide_eq_true c28
     clear c28
     by_cases c29 : (ji27) < (l0.length : Int)
     rotate_left
     ·rw [if_neg c29] at H
      exact absurd H (by simp)
     rw [if_pos c29] at H
     have c29b0 := decide_eq_true c29
     clear c29
     by_cases c30 : ((rd_T98 l0 x20_2).f0) < ((rd_T98 l0 (ji27)).f0)
     ·rw [if_pos c30] at H
      have c30b0 := decide_eq_true c30
      clear c30
      obtain rfl := Option.some.inj H
      have p223 : 0 ≤ (x20_2 : Int) := zO
      have q223 : x20_2 < (l0.length : Int) := zO
      obtain ⟨ad223, e223, hx223_0, hx223_1, hx223_2⟩ := at_T98 HR0.out x20_2 p223 q223
      cases e223
      replace hx223_0 := (HB.out.cell (za w _ hx223_0)).trans hx223_0
      replace hx223_1 := (HB.out.cell (za w _ hx223_1)).trans hx223_1
      replace hx223_2 := (HB.out.cell (za w _ hx223_2)).trans hx223_2
      replace p223 := eq_true p223
      replace q223 := eq_true q223
      try go_wp2_with (first | ((with_reducible refine gate_dst (N := 6) rfl ?_); (try (refine gate_guard (by rfl) ?_; dsimp only)); refine box_event ?hg (N := 6) ?hd (cs := #[.int .i64 0, .int .i64 0, .string (⟨#[]⟩ : ByteArray)]) (t := 98) ?hr ?_; (case hd => rfl); (case hg => rfl); (case hr => exact zH100); intro gb224 hg w31 hbox hb; have n_ := zA_ (zb (zq zG76 hb)) (zA_ (zb (hbox)) (zA_ (zb ((by rw [hg]; exact (zo zG76) : w.heap.size ≤ gb224))) (zb ((by rw [hg]; exact (zo zG76) : w.heap.size ≤ gb224))))); clear HB; obtain ⟨HB, BK224, GW224, GE224⟩ := n_; clear hb hbox hg; have hcz32_0 : w31.cell? ⟨gb224, 0, none⟩ = some (.int .i64 0) := (zg BK224.out 0).trans rfl; have hcz32_1 : w31.cell? ⟨gb224, 1, none⟩ = some (.int .i64 0) := (zg BK224.out 1).trans rfl; have hcz32_2 : w31.cell? ⟨gb224, 2, none⟩ = some (.string (⟨#[]⟩ : ByteArray)) := (zg BK224.out 2).trans rfl; have hfz32_0 := zf BK224.out 0; have hfz32_1 := zf BK224.out 1; have hfz32_2 := zf BK224.out 2))
      have n0_ : Aside0 ((((w31.setCell ⟨gb224, 0, none⟩ (.int .i64 ((rd_T98 l0 x20_2).f0))).setCell ⟨gb224, 1, none⟩ (.int .i64 ((rd_T98 l0 x20_2).f1))).setCell ⟨gb224, 2, none⟩ (.string ((rd_T98 l0 x20_2).f2))).heap[gb224]? = some (.cells #[.int .i64 ((rd_T98 l0 x20_2).f0), .int .i64 ((rd_T98 l0 x20_2).f1), .string ((rd_T98 l0 x20_2).f2)] 98 (0, 0))) := ⟨zH1⟩
      have n1_ : Aside0 (Below w.heap.size w (((w31.setCell ⟨gb224, 0, none⟩ (.int .i64 ((rd_T98 l0 x20_2).f0))).setCell ⟨gb224, 1, none⟩ (.int .i64 ((rd_T98 l0 x20_2).f1))).setCell ⟨gb224, 2, none⟩ (.string ((rd_T98 l0 x20_2).f2)))) := ⟨zH61⟩
      (try clear BK224)
      (try clear HB)
      generalize (((w31.setCell ⟨gb224, 0, none⟩ (.int .i64 ((rd_T98 l0 x20_2).f0))).setCell ⟨gb224, 1, none⟩ (.int .i64 ((rd_T98 l0 x20_2).f1))).setCell ⟨gb224, 2, none⟩ (.string ((rd_T98 l0 x20_2).f2))) = w33 at n0_ n1_ ⊢
      have BK224 := n0_
      have HB := n1_
      clear n0_ n1_
      have n0_ := zb (zk BK224.out)
      have n1_ := zb (zd HB.out)
      clear BK224
      clear HB
      have BK224 := n0_
      have HB := n1_
      clear n0_ n1_
      have p226 : 0 ≤ ((ji27) : Int) := zO
      have q226 : (ji27) < (l0.length : Int) := zO
      obtain ⟨ad226, e226, hx226_0, hx226_1, hx226_2⟩ := at_T98 HR0.out (ji27) p226 q226
      have hw226_2 := hx226_2
      have hw226_1 := hx226_1
      have hw226_0 := hx226_0
      obtain rfl : ad223 = ad226 := (by injection e226)
      replace hx226_0 := (HB.out.cell (za w _ hx226_0)).trans hx226_0
      replace hx226_1 := (HB.out.cell (za w _ hx226_1)).trans hx226_1
      replace hx226_2 := (HB.out.cell (za w _ hx226_2)).trans hx226_2
      replace p226 := eq_true p226
      replace q226 := eq_true q226
      refine start_ (n := 36) (S := fun w' => w'.cell? ⟨gb224, 0, none⟩ = some (.int .i64 ((rd_T98 l0 x20_2).f0)) ∧ w'.cell? ⟨gb224, 1, none⟩ = some (.int .i64 ((rd_T98 l0 x20_2).f1)) ∧ w'.cell? ⟨gb224, 2, none⟩ = some (.string ((rd_T98 l0 x20_2).f2)) ∧ w'.cell? (ad223.add (((ji27)).toNat * 3)) = some (.int .i64 ((rd_T98 l0 (ji27)).f0)) ∧ w'.cell? ⟨(ad223.add (((ji27)).toNat * 3)).block, (ad223.add (((ji27)).toNat * 3)).off + 1, none⟩ = some (.int .i64 ((rd_T98 l0 (ji27)).f1)) ∧ w'.cell? ⟨(ad223.add (((ji27)).toNat * 3)).block, (ad223.add (((ji27)).toNat * 3)).off + 2, none⟩ = some (.string ((rd_T98 l0 (ji27)).f2))) (ds := []) b9A0 zG96 rfl rfl ⟨(zg BK224.out 0).trans rfl, (zg BK224.out 1).trans rfl, (zg BK224.out 2).trans rfl, ((HB.out.cell (za w _ hw226_0)).trans hw226_0), ((HB.out.cell (za w _ hw226_1)).trans hw226_1), ((HB.out.cell (za w _ hw226_2)).trans hw226_2)⟩ (fun hHeld => ?_); refine with_tabW impl_ShiftsOK.tab6 impl_ShiftsOK.bits6 (fun HT_ HW_ => ?_)
      generalize w33.drew = w34 at BK224 HB hx226_0 hx226_1 hx226_2 hHeld ⊢
      refine pure_ (i := 0) (N := some 25) (v := ?_) (a' := ?_) b9A1 rfl rfl (any_of HT_.out zG96) (fun _ _ _ h => h) (Or.inl ⟨by rfl, ?_⟩) ?_ ?_
      rotate_left
      ·intro w'
       go_simp
       with_reducible rfl
      rotate_left
      ·simp only [Act.put, List.setIfInBounds_toArray, List.set_cons_zero, List.set_cons_succ, i64_w, i32_w]
       rfl
      refine take_ (i := 1) (N := some 26) (v := ?_) (a' := ?_) b9A2 rfl rfl (take_ofW HT_.out HW_.out zG96) (fun _ _ _ h => h) (Or.inl ⟨by rfl, ?_⟩) hHeld ?_ ?_
      rotate_left
      ·rintro w' ⟨s0, s1, s2, s3, s4, s5⟩
       go_simp
       with_reducible rfl
      rotate_left
      ·simp only [Act.put, List.setIfInBounds_toArray, List.set_cons_zero, List.set_cons_succ, i64_w, i32_w]
       rfl
      refine pure_ (i := 2) (N := some 27) (v := ?_) (a' := ?_) b9A3 rfl rfl (any_of HT_.out zG96) (fun _ _ _ h => h) (Or.inl ⟨by rfl, ?_⟩) ?_ ?_
      rotate_left
      ·intro w'
       go_simp
       with_reducible rfl
      rotate_left
      ·simp only [Act.put, List.setIfInBounds_toArray, List.set_cons_zero, List.set_cons_succ, i64_w, i32_w]
       rfl
      refine pure_ (i := 3) (N := some 28) (v := ?_) (a' := ?_) b9A4 rfl rfl (any_of HT_.out zG96) (fun _ _ _ h => h) (Or.inl ⟨by rfl, ?_⟩) ?_ ?_
      rotate_left
      ·intro w'
       go_simp
       with_reducible rfl
      rotate_left
      ·simp only [Act.put, List.setIfInBounds_toArray, List.set_cons_zero, List.set_cons_succ, i64_w, i32_w]
       rfl
      refine pure_ (i := 4) (N := some 29) (v := ?_) (a' := ?_) b9A5 rfl rfl (any_of HT_.out zG96) (fun _ _ _ h => h) (Or.inl ⟨by rfl, ?_⟩) ?_ ?_
      rotate_left
      ·intro w'
       go_simp
       with_reducible rfl
      rotate_left
      ·simp only [Act.put, List.setIfInBounds_toArray, List.set_cons_zero, List.set_cons_succ, i64_w, i32_w]
       rfl
      refine pure_ (i := 6) (N := some 31) (v := ?_) (a' := ?_) b9A31 rfl rfl (any_of HT_.out zG96) (fun _ _ _ h => h) (Or.inl ⟨by rfl, ?_⟩) ?_ ?_
      rotate_left
      ·intro w'
       go_simp
       with_reducible rfl
      rotate_left
      ·simp only [Act.put, List.setIfInBounds_toArray, List.set_cons_zero, List.set_cons_succ, i64_w, i32_w]
       rfl
      refine take_ (i := 5) (N := some 30) (v := ?_) (a' := ?_) b9A6 rfl rfl (take_ofW HT_.out HW_.out zG96) (fun _ _ _ h => h) (Or.inl ⟨by rfl, ?_⟩) hHeld ?_ ?_
      rotate_left
      ·rintro w' ⟨s0, s1, s2, s3, s4, s5⟩
       go_simp
       with_reducible rfl
      rotate_left
      ·simp only [Act.put, List.setIfInBounds_toArray, List.set_cons_zero, List.set_cons_succ, i64_w, i32_w]
       rfl
      refine take_ (i := 7) (N := some 32) (v := ?_) (a' := ?_) b9A7 rfl rfl (take_ofW HT_.out HW_.out zG96) (fun _ _ _ h => h) (Or.inl ⟨by rfl, ?_⟩) hHeld ?_ ?_
      rotate_left
      ·rintro w' ⟨s0, s1, s2, s3, s4, s5⟩
       go_simp
       with_reducible rfl
      rotate_left
      ·simp only [Act.put, List.setIfInBounds_toArray, List.set_cons_zero, List.set_cons_succ, i64_w, i32_w]
       rfl
      refine pure_ (i := 8) (N := some 33) (v := ?_) (a' := ?_) b9A8 rfl rfl (any_of HT_.out zG96) (fun _ _ _ h => h) (Or.inl ⟨by rfl, ?_⟩) ?_ ?_
      rotate_left
      ·intro w'
       go_simp
       with_reducible rfl
      rotate_left
      ·simp only [Act.put, List.setIfInBounds_toArray, List.set_cons_zero, List.set_cons_succ, i64_w, i32_w]
       rfl
      refine pure_ (i := 9) (N := some 34) (v := ?_) (a' := ?_) b9A9 rfl rfl (any_of HT_.out zG96) (fun _ _ _ h => h) (Or.inl ⟨by rfl, ?_⟩) ?_ ?_
      rotate_left
      ·intro w'
       go_simp
       with_reducible rfl
      rotate_left
      ·simp only [Act.put, List.setIfInBounds_toArray, List.set_cons_zero, List.set_cons_succ, i64_w, i32_w]
       rfl
      refine pure_ (i := 10) (N := some 35) (v := ?_) (a' := ?_) b9A10 rfl rfl (any_of HT_.out zG96) (fun _ _ _ h => h) (Or.inl ⟨by rfl, ?_⟩) ?_ ?_
      rotate_left
      ·intro w'
       go_simp
       with_reducible rfl
      rotate_left
      ·simp only [Act.put, List.setIfInBounds_toArray, List.set_cons_zero, List.set_cons_succ, i64_w, i32_w]
       rfl
      refine pure_ (i := 11) (N := some 36) (v := ?_) (a' := ?_) b9A11 rfl rfl (any_of HT_.out zG96) (fun _ _ _ h => h) (Or.inl ⟨by rfl, ?_⟩) ?_ ?_
      rotate_left
      ·intro w'
       go_simp
       with_reducible rfl
      rotate_left
      ·simp only [Act.put, List.setIfInBounds_toArray, List.set_cons_zero, List.set_cons_succ, i64_w, i32_w]
       rfl
      refine take_ (i := 12) (N := some 37) (v := ?_) (a' := ?_) b9A12 rfl rfl (take_ofW HT_.out HW_.out zG96) (fun _ _ _ h => h) (Or.inl ⟨by rfl, ?_⟩) hHeld ?_ ?_
      rotate_left
      ·rintro w' ⟨s0, s1, s2, s3, s4, s5⟩
       go_simp
       with_reducible rfl
      rotate_left
      ·simp only [Act.put, List.setIfInBounds_toArray, List.set_cons_zero, List.set_cons_succ, i64_w, i32_w]
       rfl
      refine pure_ (i := 13) (N := some 38) (v := ?_) (a' := ?_) b9A13 rfl rfl (any_of HT_.out zG96) (fun _ _ _ h => h) (Or.inl ⟨by rfl, ?_⟩) ?_ ?_
      rotate_left
      ·intro w'
       go_simp
       with_reducible rfl
      rotate_left
      ·simp only [Act.put, List.setIfInBounds_toArray, List.set_cons_zero, List.set_cons_succ, i64_w, i32_w]
       rfl
      refine pure_ (i := 14) (N := some 39) (v := ?_) (a' := ?_) b9A14 rfl rfl (any_of HT_.out zG96) (fun _ _ _ h => h) (Or.inl ⟨by rfl, ?_⟩) ?_ ?_
      rotate_left
      ·intro w'
       go_simp
       with_reducible rfl
      rotate_left
      ·simp only [Act.put, List.setIfInBounds_toArray, List.set_cons_zero, List.set_cons_succ, i64_w, i32_w]
       rfl
      refine pure_ (i := 15) (N := some 40) (v := ?_) (a' := ?_) b9A15 rfl rfl (any_of HT_.out zG96) (fun _ _ _ h => h) (Or.inl ⟨by rfl, ?_⟩) ?_ ?_
      rotate_left
      ·intro w'
       go_simp
       with_reducible rfl
      rotate_left
      ·simp only [Act.put, List.setIfInBounds_toArray, List.set_cons_zero, List.set_cons_succ, i64_w, i32_w]
       rfl
      refine pure_ (i := 16) (N := some 41) (v := ?_) (a' := ?_) b9A16 rfl rfl (any_of HT_.out zG96) (fun _ _ _ h => h) (Or.inl ⟨by rfl, ?_⟩) ?_ ?_
      rotate_left
      ·intro w'
       go_simp
       with_reducible rfl
      rotate_left
      ·simp only [Act.put, List.setIfInBounds_toArray, List.set_cons_zero, List.set_cons_succ, i64_w, i32_w]
       rfl
      refine take_ (i := 17) (N := some 42) (v := ?_) (a' := ?_) b9A17 rfl rfl (take_ofW HT_.out HW_.out zG96) (fun _ _ _ h => h) (Or.inl ⟨by rfl, ?_⟩) hHeld ?_ ?_
      rotate_left
      ·rintro w' ⟨s0, s1, s2, s3, s4, s5⟩
       go_simp
       with_reducible rfl
      rotate_left
      ·simp only [Act.put, List.setIfInBounds_toArray, List.set_cons_zero, List.set_cons_succ, i64_w, i32_w]
       rfl
      refine one_ (i := 18) (N := some 43) b9A18 rfl rfl (one_of HT_.out zG96) (by decide) (fun K hK => ?_)
      refine goes_ Try.func71 zG96 rfl #[.string ((rd_T98 l0 x20_2).f2)] (by rfl) rfl rfl zG65 ?_
      with_reducible refine (impl_NameOK.calls k2 ((rd_T98 l0 x20_2).f2) true _ A24.out).mono ?_
      rintro e w' ⟨rfl, ⟨nd, rfl⟩⟩
      refine ⟨_, rfl, ?_⟩
      refine hK.out _ _ ⟨(zg BK224.out 0).trans rfl, (zg BK224.out 1).trans rfl, (zg BK224.out 2).trans rfl, ((HB.out.cell (za w _ hw226_0)).trans hw226_0), ((HB.out.cell (za w _ hw226_1)).trans hw226_1), ((HB.out.cell (za w _ hw226_2)).trans hw226_2)⟩ (fun hHeld => ?_)
      clear hK K
      refine norm_ (a' := ?_) ?_ ?_
      rotate_left
      ·show Act.put _ (some 43) _ = _
       simp only [Act.put, List.setIfInBounds_toArray, List.set_cons_zero, List.set_cons_succ, i64_w, i32_w]
       rfl
      refine pure_ (i := 19) (N := some 44) (v := ?_) (a' := ?_) b9A19 rfl rfl (any_of HT_.out zG96) (fun _ _ _ h => h) (Or.inl ⟨by rfl, ?_⟩) ?_ ?_
      rotate_left
      ·intro w'
       go_simp
       with_reducible rfl
      rotate_left
      ·simp only [Act.put, List.setIfInBounds_toArray, List.set_cons_zero, List.set_cons_succ, i64_w, i32_w]
       rfl
      refine pure_ (i := 20) (N := some 45) (v := ?_) (a' := ?_) b9A20 rfl rfl (any_of HT_.out zG96) (fun _ _ _ h => h) (Or.inl ⟨by rfl, ?_⟩) ?_ ?_
      rotate_left
      ·intro w'
       go_simp
       with_reducible rfl
      rotate_left
      ·simp only [Act.put, List.setIfInBounds_toArray, List.set_cons_zero, List.set_cons_succ, i64_w, i32_w]
       rfl
      refine pure_ (i := 21) (N := some 46) (v := ?_) (a' := ?_) b9A21 rfl rfl (any_of HT_.out zG96) (fun _ _ _ h => h) (Or.inl ⟨by rfl, ?_⟩) ?_ ?_
      rotate_left
      ·intro w'
       go_simp
       with_reducible rfl
      rotate_left
      ·simp only [Act.put, List.setIfInBounds_toArray, List.set_cons_zero, List.set_cons_succ, i64_w, i32_w]
       rfl
      refine pure_ (i := 22) (N := some 47) (v := ?_) (a' := ?_) b9A22 rfl rfl (any_of HT_.out zG96) (fun _ _ _ h => h) (Or.inl ⟨by rfl, ?_⟩) ?_ ?_
      rotate_left
      ·intro w'
       go_simp
       with_reducible rfl
      rotate_left
      ·simp only [Act.put, List.setIfInBounds_toArray, List.set_cons_zero, List.set_cons_succ, i64_w, i32_w]
       rfl
      refine pure_ (i := 23) (N := some 48) (v := ?_) (a' := ?_) b9A23 rfl rfl (any_of HT_.out zG96) (fun _ _ _ h => h) (Or.inl ⟨by rfl, ?_⟩) ?_ ?_
      rotate_left
      ·intro w'
       go_simp
       with_reducible rfl
      rotate_left
      ·simp only [Act.put, List.setIfInBounds_toArray, List.set_cons_zero, List.set_cons_succ, i64_w, i32_w]
       rfl
      refine pure_ (i := 24) (N := some 49) (v := ?_) (a' := ?_) b9A24 rfl rfl (any_of HT_.out zG96) (fun _ _ _ h => h) (Or.inl ⟨by rfl, ?_⟩) ?_ ?_
      rotate_left
      ·intro w'
       go_simp
       with_reducible rfl
      rotate_left
      ·simp only [Act.put, List.setIfInBounds_toArray, List.set_cons_zero, List.set_cons_succ, i64_w, i32_w]
       rfl
      refine pure_ (i := 25) (N := some 50) (v := ?_) (a' := ?_) b9A25 rfl rfl (any_of HT_.out zG96) (fun _ _ _ h => h) (Or.inl ⟨by rfl, ?_⟩) ?_ ?_
      rotate_left
      ·intro w'
       go_simp
       with_reducible rfl
      rotate_left
      ·simp only [Act.put, List.setIfInBounds_toArray, List.set_cons_zero, List.set_cons_succ, i64_w, i32_w]
       rfl
      refine pure_ (i := 27) (N := some 52) (v := ?_) (a' := ?_) b9A37 rfl rfl (any_of HT_.out zG96) (fun _ _ _ h => h) (Or.inl ⟨by rfl, ?_⟩) ?_ ?_
      rotate_left
      ·intro w'
       go_simp
       with_reducible rfl
      rotate_left
      ·simp only [Act.put, List.setIfInBounds_toArray, List.set_cons_zero, List.set_cons_succ, i64_w, i32_w]
       rfl
      refine pure_ (i := 28) (N := some 53) (v := ?_) (a' := ?_) b9A38 rfl rfl (any_of HT_.out zG96) (fun _ _ _ h => h) (Or.inl ⟨by rfl, ?_⟩) ?_ ?_
      rotate_left
      ·intro w'
       go_simp
       with_reducible rfl
      rotate_left
      ·simp only [Act.put, List.setIfInBounds_toArray, List.set_cons_zero, List.set_cons_succ, i64_w, i32_w]
       rfl
      refine pure_ (i := 29) (N := some 54) (v := ?_) (a' := ?_) b9A39 rfl rfl (any_of HT_.out zG96) (fun _ _ _ h => h) (Or.inl ⟨by rfl, ?_⟩) ?_ ?_
      rotate_left
      ·intro w'
       go_simp
       with_reducible rfl
      rotate_left
      ·simp only [Act.put, List.setIfInBounds_toArray, List.set_cons_zero, List.set_cons_succ, i64_w, i32_w]
       rfl
      refine pure_ (i := 30) (N := some 55) (v := ?_) (a' := ?_) b9A40 rfl rfl (any_of HT_.out zG96) (fun _ _ _ h => h) (Or.inl ⟨by rfl, ?_⟩) ?_ ?_
      rotate_left
      ·intro w'
       go_simp
       with_reducible rfl
      rotate_left
      ·simp only [Act.put, List.setIfInBounds_toArray, List.set_cons_zero, List.set_cons_succ, i64_w, i32_w]
       rfl
      refine pure_ (i := 31) (N := some 56) (v := ?_) (a' := ?_) b9A41 rfl rfl (any_of HT_.out zG96) (fun _ _ _ h => h) (Or.inl ⟨by rfl, ?_⟩) ?_ ?_
      rotate_left
      ·intro w'
       go_simp
       with_reducible rfl
      rotate_left
      ·simp only [Act.put, List.setIfInBounds_toArray, List.set_cons_zero, List.set_cons_succ, i64_w, i32_w]
       rfl
      refine take_ (i := 26) (N := some 51) (v := ?_) (a' := ?_) b9A26 rfl rfl (take_ofW HT_.out HW_.out zG96) (fun _ _ _ h => h) (Or.inl ⟨by rfl, ?_⟩) hHeld ?_ ?_
      rotate_left
      ·rintro w' ⟨s0, s1, s2, s3, s4, s5⟩
       go_simp
       with_reducible rfl
      rotate_left
      ·simp only [Act.put, List.setIfInBounds_toArray, List.set_cons_zero, List.set_cons_succ, i64_w, i32_w]
       rfl
      refine take_ (i := 32) (N := some 57) (v := ?_) (a' := ?_) b9A27 rfl rfl (take_ofW HT_.out HW_.out zG96) (fun _ _ _ h => h) (Or.inl ⟨by rfl, ?_⟩) hHeld ?_ ?_
      rotate_left
      ·rintro w' ⟨s0, s1, s2, s3, s4, s5⟩
       go_simp
       with_reducible rfl
      rotate_left
      ·simp only [Act.put, List.setIfInBounds_toArray, List.set_cons_zero, List.set_cons_succ, i64_w, i32_w]
       rfl
      refine pure_ (i := 33) (N := some 58) (v := ?_) (a' := ?_) b9A28 rfl rfl (any_of HT_.out zG96) (fun _ _ _ h => h) (Or.inl ⟨by rfl, ?_⟩) ?_ ?_
      rotate_left
      ·intro w'
       go_simp
       with_reducible rfl
      rotate_left
      ·simp only [Act.put, List.setIfInBounds_toArray, List.set_cons_zero, List.set_cons_succ, i64_w, i32_w]
       rfl
      refine pure_ (i := 34) (N := some 59) (v := ?_) (a' := ?_) b9A29 rfl rfl (any_of HT_.out zG96) (fun _ _ _ h => h) (Or.inl ⟨by rfl, ?_⟩) ?_ ?_
      rotate_left
      ·intro w'
       go_simp
       with_reducible rfl
      rotate_left
      ·simp only [Act.put, List.setIfInBounds_toArray, List.set_cons_zero, List.set_cons_succ, i64_w, i32_w]
       rfl
      refine pure_ (i := 35) (N := some 60) (v := ?_) (a' := ?_) b9A30 rfl rfl (any_of HT_.out zG96) (fun _ _ _ h => h) (Or.inl ⟨by rfl, ?_⟩) ?_ ?_
      rotate_left
      ·intro w'
       go_simp
       with_reducible rfl
      rotate_left
      ·simp only [Act.put, List.setIfInBounds_toArray, List.set_cons_zero, List.set_cons_succ, i64_w, i32_w]
       rfl
      refine done_ (done_of HT_.out zG96) ?_
      try go_wp2
      go_ret
      exact ⟨by first | rfl | (simp [errW_none, errW_some] <;> rfl) | (simp only [← hji27]; first | rfl | (simp [errW_none, errW_some] <;> rfl)) | (simp [*, errW_none, errW_some] <;> rfl), zH61⟩
     rw [if_neg c30] at H
     have c30b0 := decide_eq_false c30
     clear c30
     have H' := zb H
     clear H
     have p223 : 0 ≤ (x20_2 : Int) := zO
     have q223 : x20_2 < (l0.length : Int) := zO
     obtain ⟨ad223, e223, hx223_0, hx223_1, hx223_2⟩ := at_T98 HR0.out x20_2 p223 q223
     cases e223
     replace hx223_0 := (HB.out.cell (za w _ hx223_0)).trans hx223_0
     replace hx223_1 := (HB.out.cell (za w _ hx223_1)).trans hx223_1
     replace hx223_2 := (HB.out.cell (za w _ hx223_2)).trans hx223_2
     replace p223 := eq_true p223
     replace q223 := eq_true q223
     try go_wp2_with (first | ((with_reducible refine gate_dst (N := 6) rfl ?_); (try (refine gate_guard (by rfl) ?_; dsimp only)); refine box_event ?hg (N := 6) ?hd (cs := #[.int .i64 0, .int .i64 0, .string (⟨#[]⟩ : ByteArray)]) (t := 98) ?hr ?_; (case hd => rfl); (case hg => rfl); (case hr => exact zH100); intro gb224 hg w35 hbox hb; have n_ := zA_ (zb (zq zG76 hb)) (zA_ (zb (hbox)) (zA_ (zb ((by rw [hg]; exact (zo zG76) : w.heap.size ≤ gb224))) (zb ((by rw [hg]; exact (zo zG76) : w.heap.size ≤ gb224))))); clear HB; obtain ⟨HB, BK224, GW224, GE224⟩ := n_; clear hb hbox hg; have hcz36_0 : w35.cell? ⟨gb224, 0, none⟩ = some (.int .i64 0) := (zg BK224.out 0).trans rfl; have hcz36_1 : w35.cell? ⟨gb224, 1, none⟩ = some (.int .i64 0) := (zg BK224.out 1).trans rfl; have hcz36_2 : w35.cell? ⟨gb224, 2, none⟩ = some (.string (⟨#[]⟩ : ByteArray)) := (zg BK224.out 2).trans rfl; have hfz36_0 := zf BK224.out 0; have hfz36_1 := zf BK224.out 1; have hfz36_2 := zf BK224.out 2))
     have n0_ : Aside0 ((((w35.setCell ⟨gb224, 0, none⟩ (.int .i64 ((rd_T98 l0 x20_2).f0))).setCell ⟨gb224, 1, none⟩ (.int .i64 ((rd_T98 l0 x20_2).f1))).setCell ⟨gb224, 2, none⟩ (.string ((rd_T98 l0 x20_2).f2))).heap[gb224]? = some (.cells #[.int .i64 ((rd_T98 l0 x20_2).f0), .int .i64 ((rd_T98 l0 x20_2).f1), .string ((rd_T98 l0 x20_2).f2)] 98 (0, 0))) := ⟨zH1⟩
     have n1_ : Aside0 (Below w.heap.size w (((w35.setCell ⟨gb224, 0, none⟩ (.int .i64 ((rd_T98 l0 x20_2).f0))).setCell ⟨gb224, 1, none⟩ (.int .i64 ((rd_T98 l0 x20_2).f1))).setCell ⟨gb224, 2, none⟩ (.string ((rd_T98 l0 x20_2).f2)))) := ⟨zH61⟩
     (try clear BK224)
     (try clear HB)
     generalize (((w35.setCell ⟨gb224, 0, none⟩ (.int .i64 ((rd_T98 l0 x20_2).f0))).setCell ⟨gb224, 1, none⟩ (.int .i64 ((rd_T98 l0 x20_2).f1))).setCell ⟨gb224, 2, none⟩ (.string ((rd_T98 l0 x20_2).f2))) = w37 at n0_ n1_ ⊢
     have BK224 := n0_
     have HB := n1_
     clear n0_ n1_
     have n0_ := zb (zk BK224.out)
     have n1_ := zb (zd HB.out)
     clear BK224
     clear HB
     have BK224 := n0_
     have HB := n1_
     clear n0_ n1_
     have p226 : 0 ≤ ((ji27) : Int) := zO
     have q226 : (ji27) < (l0.length : Int) := zO
     obtain ⟨ad226, e226, hx226_0, hx226_1, hx226_2⟩ := at_T98 HR0.out (ji27) p226 q226
     have hw226_2 := hx226_2
     have hw226_1 := hx226_1
     have hw226_0 := hx226_0
     obtain rfl : ad223 = ad226 := (by injection e226)
     replace hx226_0 := (HB.out.cell (za w _ hx226_0)).trans hx226_0
     replace hx226_1 := (HB.out.cell (za w _ hx226_1)).trans hx226_1
     replace hx226_2 := (HB.out.cell (za w _ hx226_2)).trans hx226_2
     replace p226 := eq_true p226
     replace q226 := eq_true q226
     refine start_ (n := 36) (S := fun w' => w'.cell? ⟨gb224, 0, none⟩ = some (.int .i64 ((rd_T98 l0 x20_2).f0)) ∧ w'.cell? ⟨gb224, 1, none⟩ = some (.int .i64 ((rd_T98 l0 x20_2).f1)) ∧ w'.cell? ⟨gb224, 2, none⟩ = some (.string ((rd_T98 l0 x20_2).f2)) ∧ w'.cell? (ad223.add (((ji27)).toNat * 3)) = some (.int .i64 ((rd_T98 l0 (ji27)).f0)) ∧ w'.cell? ⟨(ad223.add (((ji27)).toNat * 3)).block, (ad223.add (((ji27)).toNat * 3)).off + 1, none⟩ = some (.int .i64 ((rd_T98 l0 (ji27)).f1)) ∧ w'.cell? ⟨(ad223.add (((ji27)).toNat * 3)).block, (ad223.add (((ji27)).toNat * 3)).off + 2, none⟩ = some (.string ((rd_T98 l0 (ji27)).f2))) (ds := []) b9A0 zG96 rfl rfl ⟨(zg BK224.out 0).trans rfl, (zg BK224.out 1).trans rfl, (zg BK224.out 2).trans rfl, ((HB.out.cell (za w _ hw226_0)).trans hw226_0), ((HB.out.cell (za w _ hw226_1)).trans hw226_1), ((HB.out.cell (za w _ hw226_2)).trans hw226_2)⟩ (fun hHeld => ?_); refine with_tabW impl_ShiftsOK.tab6 impl_ShiftsOK.bits6 (fun HT_ HW_ => ?_)
     generalize w37.drew = w38 at BK224 HB hx226_0 hx226_1 hx226_2 hHeld ⊢
     refine pure_ (i := 0) (N := some 25) (v := ?_) (a' := ?_) b9A1 rfl rfl (any_of HT_.out zG96) (fun _ _ _ h => h) (Or.inl ⟨by rfl, ?_⟩) ?_ ?_
     rotate_left
     ·intro w'
      go_simp
      with_reducible rfl
     rotate_left
     ·simp only [Act.put, List.setIfInBounds_toArray, List.set_cons_zero, List.set_cons_succ, i64_w, i32_w]
      rfl
     refine take_ (i := 1) (N := some 26) (v := ?_) (a' := ?_) b9A2 rfl rfl (take_ofW HT_.out HW_.out zG96) (fun _ _ _ h => h) (Or.inl ⟨by rfl, ?_⟩) hHeld ?_ ?_
     rotate_left
     ·rintro w' ⟨s0, s1, s2, s3, s4, s5⟩
      go_simp
      with_reducible rfl
     rotate_left
     ·simp only [Act.put, List.setIfInBounds_toArray, List.set_cons_zero, List.set_cons_succ, i64_w, i32_w]
      rfl
     refine pure_ (i := 2) (N := some 27) (v := ?_) (a' := ?_) b9A3 rfl rfl (any_of HT_.out zG96) (fun _ _ _ h => h) (Or.inl ⟨by rfl, ?_⟩) ?_ ?_
     rotate_left
     ·intro w'
      go_simp
      with_reducible rfl
     rotate_left
     ·simp only [Act.put, List.setIfInBounds_toArray, List.set_cons_zero, List.set_cons_succ, i64_w, i32_w]
      rfl
     refine pure_ (i := 3) (N := some 28) (v := ?_) (a' := ?_) b9A4 rfl rfl (any_of HT_.out zG96) (fun _ _ _ h => h) (Or.inl ⟨by rfl, ?_⟩) ?_ ?_
     rotate_left
     ·intro w'
      go_simp
      with_reducible rfl
     rotate_left
     ·simp only [Act.put, List.setIfInBounds_toArray, List.set_cons_zero, List.set_cons_succ, i64_w, i32_w]
      rfl
     refine pure_ (i := 4) (N := some 29) (v := ?_) (a' := ?_) b9A5 rfl rfl (any_of HT_.out zG96) (fun _ _ _ h => h) (Or.inl ⟨by rfl, ?_⟩) ?_ ?_
     rotate_left
     ·intro w'
      go_simp
      with_reducible rfl
     rotate_left
     ·simp only [Act.put, List.setIfInBounds_toArray, List.set_cons_zero, List.set_cons_succ, i64_w, i32_w]
      rfl
     refine pure_ (i := 6) (N := some 31) (v := ?_) (a' := ?_) b9A31 rfl rfl (any_of HT_.out zG96) (fun _ _ _ h => h) (Or.inl ⟨by rfl, ?_⟩) ?_ ?_
     rotate_left
     ·intro w'
      go_simp
      with_reducible rfl
     rotate_left
     ·simp only [Act.put, List.setIfInBounds_toArray, List.set_cons_zero, List.set_cons_succ, i64_w, i32_w]
      rfl
     refine take_ (i := 5) (N := some 30) (v := ?_) (a' := ?_) b9A6 rfl rfl (take_ofW HT_.out HW_.out zG96) (fun _ _ _ h => h) (Or.inl ⟨by rfl, ?_⟩) hHeld ?_ ?_
     rotate_left
     ·rintro w' ⟨s0, s1, s2, s3, s4, s5⟩
      go_simp
      with_reducible rfl
     rotate_left
     ·simp only [Act.put, List.setIfInBounds_toArray, List.set_cons_zero, List.set_cons_succ, i64_w, i32_w]
      rfl
     refine take_ (i := 7) (N := some 32) (v := ?_) (a' := ?_) b9A7 rfl rfl (take_ofW HT_.out HW_.out zG96) (fun _ _ _ h => h) (Or.inl ⟨by rfl, ?_⟩) hHeld ?_ ?_
     rotate_left
     ·rintro w' ⟨s0, s1, s2, s3, s4, s5⟩
      go_simp
      with_reducible rfl
     rotate_left
     ·simp only [Act.put, List.setIfInBounds_toArray, List.set_cons_zero, List.set_cons_succ, i64_w, i32_w]
      rfl
     refine pure_ (i := 8) (N := some 33) (v := ?_) (a' := ?_) b9A8 rfl rfl (any_of HT_.out zG96) (fun _ _ _ h => h) (Or.inl ⟨by rfl, ?_⟩) ?_ ?_
     rotate_left
     ·intro w'
      go_simp
      with_reducible rfl
     rotate_left
     ·simp only [Act.put, List.setIfInBounds_toArray, List.set_cons_zero, List.set_cons_succ, i64_w, i32_w]
      rfl
     refine pure_ (i := 9) (N := some 34) (v := ?_) (a' := ?_) b9A9 rfl rfl (any_of HT_.out zG96) (fun _ _ _ h => h) (Or.inl ⟨by rfl, ?_⟩) ?_ ?_
     rotate_left
     ·intro w'
      go_simp
      with_reducible rfl
     rotate_left
     ·simp only [Act.put, List.setIfInBounds_toArray, List.set_cons_zero, List.set_cons_succ, i64_w, i32_w]
      rfl
     refine pure_ (i := 10) (N := some 35) (v := ?_) (a' := ?_) b9A10 rfl rfl (any_of HT_.out zG96) (fun _ _ _ h => h) (Or.inl ⟨by rfl, ?_⟩) ?_ ?_
     rotate_left
     ·intro w'
      go_simp
      with_reducible rfl
     rotate_left
     ·simp only [Act.put, List.setIfInBounds_toArray, List.set_cons_zero, List.set_cons_succ, i64_w, i32_w]
      rfl
     refine pure_ (i := 11) (N := some 36) (v := ?_) (a' := ?_) b9A11 rfl rfl (any_of HT_.out zG96) (fun _ _ _ h => h) (Or.inl ⟨by rfl, ?_⟩) ?_ ?_
     rotate_left
     ·intro w'
      go_simp
      with_reducible rfl
     rotate_left
     ·simp only [Act.put, List.setIfInBounds_toArray, List.set_cons_zero, List.set_cons_succ, i64_w, i32_w]
      rfl
     refine take_ (i := 12) (N := some 37) (v := ?_) (a' := ?_) b9A12 rfl rfl (take_ofW HT_.out HW_.out zG96) (fun _ _ _ h => h) (Or.inl ⟨by rfl, ?_⟩) hHeld ?_ ?_
     rotate_left
     ·rintro w' ⟨s0, s1, s2, s3, s4, s5⟩
      go_simp
      with_reducible rfl
     rotate_left
     ·simp only [Act.put, List.setIfInBounds_toArray, List.set_cons_zero, List.set_cons_succ, i64_w, i32_w]
      rfl
     refine pure_ (i := 13) (N := some 38) (v := ?_) (a' := ?_) b9A13 rfl rfl (any_of HT_.out zG96) (fun _ _ _ h => h) (Or.inl ⟨by rfl, ?_⟩) ?_ ?_
     rotate_left
     ·intro w'
      go_simp
      with_reducible rfl
     rotate_left
     ·simp only [Act.put, List.setIfInBounds_toArray, List.set_cons_zero, List.set_cons_succ, i64_w, i32_w]
      rfl
     refine pure_ (i := 14) (N := some 39) (v := ?_) (a' := ?_) b9A14 rfl rfl (any_of HT_.out zG96) (fun _ _ _ h => h) (Or.inl ⟨by rfl, ?_⟩) ?_ ?_
     rotate_left
     ·intro w'
      go_simp
      with_reducible rfl
     rotate_left
     ·simp only [Act.put, List.setIfInBounds_toArray, List.set_cons_zero, List.set_cons_succ, i64_w, i32_w]
      rfl
     refine pure_ (i := 15) (N := some 40) (v := ?_) (a' := ?_) b9A15 rfl rfl (any_of HT_.out zG96) (fun _ _ _ h => h) (Or.inl ⟨by rfl, ?_⟩) ?_ ?_
     rotate_left
     ·intro w'
      go_simp
      with_reducible rfl
     rotate_left
     ·simp only [Act.put, List.setIfInBounds_toArray, List.set_cons_zero, List.set_cons_succ, i64_w, i32_w]
      rfl
     refine pure_ (i := 16) (N := some 41) (v := ?_) (a' := ?_) b9A16 rfl rfl (any_of HT_.out zG96) (fun _ _ _ h => h) (Or.inl ⟨by rfl, ?_⟩) ?_ ?_
     rotate_left
     ·intro w'
      go_simp
      with_reducible rfl
     rotate_left
     ·simp only [Act.put, List.setIfInBounds_toArray, List.set_cons_zero, List.set_cons_succ, i64_w, i32_w]
      rfl
     refine take_ (i := 17) (N := some 42) (v := ?_) (a' := ?_) b9A17 rfl rfl (take_ofW HT_.out HW_.out zG96) (fun _ _ _ h => h) (Or.inl ⟨by rfl, ?_⟩) hHeld ?_ ?_
     rotate_left
     ·rintro w' ⟨s0, s1, s2, s3, s4, s5⟩
      go_simp
      with_reducible rfl
     rotate_left
     ·simp only [Act.put, List.setIfInBounds_toArray, List.set_cons_zero, List.set_cons_succ, i64_w, i32_w]
      rfl
     refine one_ (i := 18) (N := some 43) b9A18 rfl rfl (one_of HT_.out zG96) (by decide) (fun K hK => ?_)
     refine goes_ Try.func71 zG96 rfl #[.string ((rd_T98 l0 x20_2).f2)] (by rfl) rfl rfl zG65 ?_
     with_reducible refine (impl_NameOK.calls k2 ((rd_T98 l0 x20_2).f2) true _ A24.out).mono ?_
     rintro e w' ⟨rfl, ⟨nd, rfl⟩⟩
     refine ⟨_, rfl, ?_⟩
     refine hK.out _ _ ⟨(zg BK224.out 0).trans rfl, (zg BK224.out 1).trans rfl, (zg BK224.out 2).trans rfl, ((HB.out.cell (za w _ hw226_0)).trans hw226_0), ((HB.out.cell (za w _ hw226_1)).trans hw226_1), ((HB.out.cell (za w _ hw226_2)).trans hw226_2)⟩ (fun hHeld => ?_)
     clear hK K
     refine norm_ (a' := ?_) ?_ ?_
     rotate_left
     ·show Act.put _ (some 43) _ = _
      simp only [Act.put, List.setIfInBounds_toArray, List.set_cons_zero, List.set_cons_succ, i64_w, i32_w]
      rfl
     refine pure_ (i := 19) (N := some 44) (v := ?_) (a' := ?_) b9A19 rfl rfl (any_of HT_.out zG96) (fun _ _ _ h => h) (Or.inl ⟨by rfl, ?_⟩) ?_ ?_
     rotate_left
     ·intro w'
      go_simp
      with_reducible rfl
     rotate_left
     ·simp only [Act.put, List.setIfInBounds_toArray, List.set_cons_zero, List.set_cons_succ, i64_w, i32_w]
      rfl
     refine pure_ (i := 20) (N := some 45) (v := ?_) (a' := ?_) b9A20 rfl rfl (any_of HT_.out zG96) (fun _ _ _ h => h) (Or.inl ⟨by rfl, ?_⟩) ?_ ?_
     rotate_left
     ·intro w'
      go_simp
      with_reducible rfl
     rotate_left
     ·simp only [Act.put, List.setIfInBounds_toArray, List.set_cons_zero, List.set_cons_succ, i64_w, i32_w]
      rfl
     refine pure_ (i := 21) (N := some 46) (v := ?_) (a' := ?_) b9A21 rfl rfl (any_of HT_.out zG96) (fun _ _ _ h => h) (Or.inl ⟨by rfl, ?_⟩) ?_ ?_
     rotate_left
     ·intro w'
      go_simp
      with_reducible rfl
     rotate_left
     ·simp only [Act.put, List.setIfInBounds_toArray, List.set_cons_zero, List.set_cons_succ, i64_w, i32_w]
      rfl
     refine pure_ (i := 22) (N := some 47) (v := ?_) (a' := ?_) b9A22 rfl rfl (any_of HT_.out zG96) (fun _ _ _ h => h) (Or.inl ⟨by rfl, ?_⟩) ?_ ?_
     rotate_left
     ·intro w'
      go_simp
      with_reducible rfl
     rotate_left
     ·simp only [Act.put, List.setIfInBounds_toArray, List.set_cons_zero, List.set_cons_succ, i64_w, i32_w]
      rfl
     refine pure_ (i := 23) (N := some 48) (v := ?_) (a' := ?_) b9A23 rfl rfl (any_of HT_.out zG96) (fun _ _ _ h => h) (Or.inl ⟨by rfl, ?_⟩) ?_ ?_
     rotate_left
     ·intro w'
      go_simp
      with_reducible rfl
     rotate_left
     ·simp only [Act.put, List.setIfInBounds_toArray, List.set_cons_zero, List.set_cons_succ, i64_w, i32_w]
      rfl
     refine pure_ (i := 24) (N := some 49) (v := ?_) (a' := ?_) b9A24 rfl rfl (any_of HT_.out zG96) (fun _ _ _ h => h) (Or.inl ⟨by rfl, ?_⟩) ?_ ?_
     rotate_left
     ·intro w'
      go_simp
      with_reducible rfl
     rotate_left
     ·simp only [Act.put, List.setIfInBounds_toArray, List.set_cons_zero, List.set_cons_succ, i64_w, i32_w]
      rfl
     refine pure_ (i := 25) (N := some 50) (v := ?_) (a' := ?_) b9A25 rfl rfl (any_of HT_.out zG96) (fun _ _ _ h => h) (Or.inl ⟨by rfl, ?_⟩) ?_ ?_
     rotate_left
     ·intro w'
      go_simp
      with_reducible rfl
     rotate_left
     ·simp only [Act.put, List.setIfInBounds_toArray, List.set_cons_zero, List.set_cons_succ, i64_w, i32_w]
      rfl
     refine pure_ (i := 27) (N := some 52) (v := ?_) (a' := ?_) b9A37 rfl rfl (any_of HT_.out zG96) (fun _ _ _ h => h) (Or.inl ⟨by rfl, ?_⟩) ?_ ?_
     rotate_left
     ·intro w'
      go_simp
      with_reducible rfl
     rotate_left
     ·simp only [Act.put, List.setIfInBounds_toArray, List.set_cons_zero, List.set_cons_succ, i64_w, i32_w]
      rfl
     refine pure_ (i := 28) (N := some 53) (v := ?_) (a' := ?_) b9A38 rfl rfl (any_of HT_.out zG96) (fun _ _ _ h => h) (Or.inl ⟨by rfl, ?_⟩) ?_ ?_
     rotate_left
     ·intro w'
      go_simp
      with_reducible rfl
     rotate_left
     ·simp only [Act.put, List.setIfInBounds_toArray, List.set_cons_zero, List.set_cons_succ, i64_w, i32_w]
      rfl
     refine pure_ (i := 29) (N := some 54) (v := ?_) (a' := ?_) b9A39 rfl rfl (any_of HT_.out zG96) (fun _ _ _ h => h) (Or.inl ⟨by rfl, ?_⟩) ?_ ?_
     rotate_left
     ·intro w'
      go_simp
      with_reducible rfl
     rotate_left
     ·simp only [Act.put, List.setIfInBounds_toArray, List.set_cons_zero, List.set_cons_succ, i64_w, i32_w]
      rfl
     refine pure_ (i := 30) (N := some 55) (v := ?_) (a' := ?_) b9A40 rfl rfl (any_of HT_.out zG96) (fun _ _ _ h => h) (Or.inl ⟨by rfl, ?_⟩) ?_ ?_
     rotate_left
     ·intro w'
      go_simp
      with_reducible rfl
     rotate_left
     ·simp only [Act.put, List.setIfInBounds_toArray, List.set_cons_zero, List.set_cons_succ, i64_w, i32_w]
      rfl
     refine pure_ (i := 31) (N := some 56) (v := ?_) (a' := ?_) b9A41 rfl rfl (any_of HT_.out zG96) (fun _ _ _ h => h) (Or.inl ⟨by rfl, ?_⟩) ?_ ?_
     rotate_left
     ·intro w'
      go_simp
      with_reducible rfl
     rotate_left
     ·simp only [Act.put, List.setIfInBounds_toArray, List.set_cons_zero, List.set_cons_succ, i64_w, i32_w]
      rfl
     refine take_ (i := 26) (N := some 51) (v := ?_) (a' := ?_) b9A26 rfl rfl (take_ofW HT_.out HW_.out zG96) (fun _ _ _ h => h) (Or.inl ⟨by rfl, ?_⟩) hHeld ?_ ?_
     rotate_left
     ·rintro w' ⟨s0, s1, s2, s3, s4, s5⟩
      go_simp
      with_reducible rfl
     rotate_left
     ·simp only [Act.put, List.setIfInBounds_toArray, List.set_cons_zero, List.set_cons_succ, i64_w, i32_w]
      rfl
     refine take_ (i := 32) (N := some 57) (v := ?_) (a' := ?_) b9A27 rfl rfl (take_ofW HT_.out HW_.out zG96) (fun _ _ _ h => h) (Or.inl ⟨by rfl, ?_⟩) hHeld ?_ ?_
     rotate_left
     ·rintro w' ⟨s0, s1, s2, s3, s4, s5⟩
      go_simp
      with_reducible rfl
     rotate_left
     ·simp only [Act.put, List.setIfInBounds_toArray, List.set_cons_zero, List.set_cons_succ, i64_w, i32_w]
      rfl
     refine pure_ (i := 33) (N := some 58) (v := ?_) (a' := ?_) b9A28 rfl rfl (any_of HT_.out zG96) (fun _ _ _ h => h) (Or.inl ⟨by rfl, ?_⟩) ?_ ?_
     rotate_left
     ·intro w'
      go_simp
      with_reducible rfl
     rotate_left
     ·simp only [Act.put, List.setIfInBounds_toArray, List.set_cons_zero, List.set_cons_succ, i64_w, i32_w]
      rfl
     refine pure_ (i := 34) (N := some 59) (v := ?_) (a' := ?_) b9A29 rfl rfl (any_of HT_.out zG96) (fun _ _ _ h => h) (Or.inl ⟨by rfl, ?_⟩) ?_ ?_
     rotate_left
     ·intro w'
      go_simp
      with_reducible rfl
     rotate_left
     ·simp only [Act.put, List.setIfInBounds_toArray, List.set_cons_zero, List.set_cons_succ, i64_w, i32_w]
      rfl
     refine pure_ (i := 35) (N := some 60) (v := ?_) (a' := ?_) b9A30 rfl rfl (any_of HT_.out zG96) (fun _ _ _ h => h) (Or.inl ⟨by rfl, ?_⟩) ?_ ?_
     rotate_left
     ·intro w'
      go_simp
      with_reducible rfl
     rotate_left
     ·simp only [Act.put, List.setIfInBounds_toArray, List.set_cons_zero, List.set_cons_succ, i64_w, i32_w]
      rfl
     refine done_ (done_of HT_.out zG96) ?_
     try go_wp2
     go_roundg k2
     case measure => have := HJ2.out; have := HK2.out; omega
     case rel => exact ⟨(wrap64 (x20_2 + 1)), zG95, H', ⟨by have := HJ2.out; have := HK2.out; omega⟩, ⟨zH61⟩⟩
end Go.Proofs.Ytjibigpdbpipcaa.R
