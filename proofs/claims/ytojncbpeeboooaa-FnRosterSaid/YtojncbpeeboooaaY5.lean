-- squeezed
-- made by pp.py (wip/tools) out of the translation; Lean checks it
import Derived.Test.YtojncbpeeboooaaY0
import Derived.Test.YtojncbpeeboooaaY3
import Derived.Test.YtojncbpeeboooaaY4
namespace Go.Proofs.Ytojncbpeeboooaa.Y
open Go.RowKit Go.Proofs.YtojncbpeeboooaaW.PrintWords Go.Proofs.YtojncbpeeboooaaW.PrintLast Go.Proofs.YtojncbpeeboooaaW.PrintMore
attribute [local go_sem] max2_int min2_int max_two min_two max_three min_three max_four min_four   -- for this text's walks alone
set_option linter.unusedVariables false
set_option linter.unusedSimpArgs false

abbrev b5A0 := zM 36 0
abbrev b5A1 := zM 36 1
abbrev b5A2 := zM 36 3
abbrev b5A3 := zM 36 7
abbrev b5A4 := zM 36 15
abbrev b5A5 := zM 36 31
abbrev b5A6 := zM 36 127
abbrev b5A7 := zM 36 255
abbrev b5A8 := zM 36 511
abbrev b5A9 := zM 36 1023
abbrev b5A10 := zM 36 2047
abbrev b5A11 := zM 36 4095
abbrev b5A12 := zM 36 8191
abbrev b5A13 := zM 36 16383
abbrev b5A14 := zM 36 32767
abbrev b5A15 := zM 36 65535
abbrev b5A16 := zM 36 131071
abbrev b5A17 := zM 36 262143
abbrev b5A18 := zM 36 524287
abbrev b5A19 := zM 36 1048575
abbrev b5A20 := zM 36 2097151
abbrev b5A21 := zM 36 4194303
abbrev b5A22 := zM 36 8388607
abbrev b5A23 := zM 36 16777215
abbrev b5A24 := zM 36 33554431
abbrev b5A25 := zM 36 67108863
abbrev b5A26 := zM 36 4294967295
abbrev b5A27 := zM 36 8589934591
abbrev b5A28 := zM 36 17179869183
abbrev b5A29 := zM 36 34359738367
abbrev b5A30 := zM 36 68719476735
abbrev b5A31 := zM 36 95
abbrev b5A32 := zM 36 134217727
abbrev b5A33 := zM 36 268435455
abbrev b5A34 := zM 36 536870911
abbrev b5A35 := zM 36 1073741823
abbrev b5A36 := zM 36 2147483647
abbrev b5A37 := zM 36 201326591
abbrev b5A38 := zM 36 469762047
abbrev b5A39 := zM 36 1006632959
abbrev b5A40 := zM 36 2080374783
abbrev b5A41 := zM 36 4227858431
/-! ### impl_ShiftsOK: function 31 -/
mutual
def impl_ShiftsOK.j0 : Nat → List (S139) → List (S72) → Bool → Option (Bool)
 | 0, _, _, _ => none
 | k + 1, x0, x1, x17 => if x17 = true then (some false) else (impl_ShiftsOK.l0 k x0 x1 x0 (x0.length : Int) 0)
def impl_ShiftsOK.l0 : Nat → List (S139) → List (S72) → List (S139) → Int → Int → Option (Bool)
 | 0, _, _, _, _, _ => none
 | k + 1, x0, x1, x18, x19, x20 => if x20 < x19 then (if 0 ≤ x20 then (if x20 < (x18.length : Int) then (if ((rd_T139 x18 x20).f0) < 0 then (some false) else (if ((rd_T139 x18 x20).f0) ≥ ((rd_T139 x18 x20).f1) then (some false) else (if ((rd_T139 x18 x20).f1) > 10080 then (some false) else ((impl_NameOK.f k ((rd_T139 x18 x20).f2)).bind fun t233 => (if t233 = true then (if x20 > 0 then (if 0 ≤ (wrap64 (x20 - 1)) then (if (wrap64 (x20 - 1)) < (x0.length : Int) then (if ((rd_T139 x18 x20).f0) < ((rd_T139 x0 (wrap64 (x20 - 1))).f0) then (some false) else (impl_ShiftsOK.l0 k x0 x1 x18 x19 (wrap64 (x20 + 1)))) else (none)) else (none)) else (impl_ShiftsOK.l0 k x0 x1 x18 x19 (wrap64 (x20 + 1)))) else (some false)))))) else (none)) else (none)) else (impl_ShiftsOK.l1 k (([] : List ByteArray)) x1 (x1.length : Int) 0)
def impl_ShiftsOK.l1 : Nat → List ByteArray → List (S72) → Int → Int → Option (Bool)
 | 0, _, _, _, _ => none
 | k + 1, x7, x63, x64, x65 => if x65 < x64 then (if 0 ≤ x65 then (if x65 < (x63.length : Int) then ((impl_isWorker.f k ((rd_T72 x63 x65).f0) ((rd_T72 x63 x65).f1) ((rd_T72 x63 x65).f2) ((rd_T72 x63 x65).f3) ((rd_T72 x63 x65).f4)).bind fun t240 => (if t240 = true then (if x7.length < 8796093022208 then (impl_ShiftsOK.l1 k (x7 ++ [(rd_T72 x63 x65).f0]) x63 x64 (wrap64 (x65 + 1))) else (none)) else (some false))) else (none)) else (none)) else ((impl_hasTwice_string.f k x7).bind fun t244 => (some (!t244)))
end
def impl_ShiftsOK.f (k : Nat) (l0 : List (S139)) (l1 : List (S72)) : Option (Bool) := if (l0.length : Int) > 8 then (impl_ShiftsOK.j0 k l0 l1 true) else (impl_ShiftsOK.j0 k l0 l1 (decide ((l1.length : Int) > 5)))
theorem impl_ShiftsOK.mono_l : ∀ k, (∀ y0 y1 y2, LeO (impl_ShiftsOK.j0 k y0 y1 y2) (impl_ShiftsOK.j0 (k + 1) y0 y1 y2)) ∧ (∀ y0 y1 y2 y3 y4, LeO (impl_ShiftsOK.l0 k y0 y1 y2 y3 y4) (impl_ShiftsOK.l0 (k + 1) y0 y1 y2 y3 y4)) ∧ (∀ y0 y1 y2 y3, LeO (impl_ShiftsOK.l1 k y0 y1 y2 y3) (impl_ShiftsOK.l1 (k + 1) y0 y1 y2 y3))
 | 0 => ⟨fun _ _ _ r h => by simp [impl_ShiftsOK.j0] at h, fun _ _ _ _ _ r h => by simp [impl_ShiftsOK.l0] at h, fun _ _ _ _ r h => by simp [impl_ShiftsOK.l1] at h⟩
 | k + 1 => by
  obtain ⟨ih0, ih1, ih2⟩ := impl_ShiftsOK.mono_l k
  refine ⟨?_, ?_, ?_⟩
  ·intro y0 y1 y2
   unfold impl_ShiftsOK.j0
   repeat' first
   | (with_reducible exact ih0 _ _ _)
   | (with_reducible exact ih1 _ _ _ _ _)
   | (with_reducible exact ih2 _ _ _ _)
   | (with_reducible exact impl_NameOK.mono _ _)
   | (with_reducible exact impl_hasTwice_string.mono _ _)
   | (with_reducible exact impl_isWorker.mono _ _ _ _ _ _)
   | (with_reducible exact LeO.refl _)
   | (with_reducible exact LeO.none _)
   | (with_reducible refine LeO.ite ?_ ?_)
   | (with_reducible refine LeO.bind ?_ (fun _ => ?_))
   | exact ih0 _ _ _
   | exact ih1 _ _ _ _ _
   | exact ih2 _ _ _ _
   | exact impl_NameOK.mono _ _
   | exact impl_hasTwice_string.mono _ _
   | exact impl_isWorker.mono _ _ _ _ _ _
   | exact LeO.none _
   | refine LeO.ite ?_ ?_
   | refine LeO.bind ?_ (fun _ => ?_)
  ·intro y0 y1 y2 y3 y4
   unfold impl_ShiftsOK.l0
   repeat' first
   | (with_reducible exact ih0 _ _ _)
   | (with_reducible exact ih1 _ _ _ _ _)
   | (with_reducible exact ih2 _ _ _ _)
   | (with_reducible exact impl_NameOK.mono _ _)
   | (with_reducible exact impl_hasTwice_string.mono _ _)
   | (with_reducible exact impl_isWorker.mono _ _ _ _ _ _)
   | (with_reducible exact LeO.refl _)
   | (with_reducible exact LeO.none _)
   | (with_reducible refine LeO.ite ?_ ?_)
   | (with_reducible refine LeO.bind ?_ (fun _ => ?_))
   | exact ih0 _ _ _
   | exact ih1 _ _ _ _ _
   | exact ih2 _ _ _ _
   | exact impl_NameOK.mono _ _
   | exact impl_hasTwice_string.mono _ _
   | exact impl_isWorker.mono _ _ _ _ _ _
   | exact LeO.none _
   | refine LeO.ite ?_ ?_
   | refine LeO.bind ?_ (fun _ => ?_)
  ·intro y0 y1 y2 y3
   unfold impl_ShiftsOK.l1
   repeat' first
   | (with_reducible exact ih0 _ _ _)
   | (with_reducible exact ih1 _ _ _ _ _)
   | (with_reducible exact ih2 _ _ _ _)
   | (with_reducible exact impl_NameOK.mono _ _)
   | (with_reducible exact impl_hasTwice_string.mono _ _)
   | (with_reducible exact impl_isWorker.mono _ _ _ _ _ _)
   | (with_reducible exact LeO.refl _)
   | (with_reducible exact LeO.none _)
   | (with_reducible refine LeO.ite ?_ ?_)
   | (with_reducible refine LeO.bind ?_ (fun _ => ?_))
   | exact ih0 _ _ _
   | exact ih1 _ _ _ _ _
   | exact ih2 _ _ _ _
   | exact impl_NameOK.mono _ _
   | exact impl_hasTwice_string.mono _ _
   | exact impl_isWorker.mono _ _ _ _ _ _
   | exact LeO.none _
   | refine LeO.ite ?_ ?_
   | refine LeO.bind ?_ (fun _ => ?_)
theorem impl_ShiftsOK.mono : ∀ a0 a1 k, LeO (impl_ShiftsOK.f k a0 a1) (impl_ShiftsOK.f (k + 1) a0 a1) := by
 intro a0 a1 k
 obtain ⟨ih0, ih1, ih2⟩ := impl_ShiftsOK.mono_l k
 unfold impl_ShiftsOK.f
 repeat' first
   | (with_reducible exact ih0 _ _ _)
   | (with_reducible exact ih1 _ _ _ _ _)
   | (with_reducible exact ih2 _ _ _ _)
   | (with_reducible exact impl_NameOK.mono _ _)
   | (with_reducible exact impl_hasTwice_string.mono _ _)
   | (with_reducible exact impl_isWorker.mono _ _ _ _ _ _)
   | (with_reducible exact LeO.refl _)
   | (with_reducible exact LeO.none _)
   | (with_reducible refine LeO.ite ?_ ?_)
   | (with_reducible refine LeO.bind ?_ (fun _ => ?_))
   | exact ih0 _ _ _
   | exact ih1 _ _ _ _ _
   | exact ih2 _ _ _ _
   | exact impl_NameOK.mono _ _
   | exact impl_hasTwice_string.mono _ _
   | exact impl_isWorker.mono _ _ _ _ _ _
   | exact LeO.none _
   | refine LeO.ite ?_ ?_
   | refine LeO.bind ?_ (fun _ => ?_)
def impl_ShiftsOK.T6 : Bool × List (List Nat × List Nat) := (true, [([], []), ([0], [0]), ([1], [1]), ([2], [2]), ([3], [3]), ([4, 3], [3, 4]), ([3], [3]), ([6, 3], [3, 6]), ([5, 7, 3], [3, 5, 7]), ([3, 8], [3, 8]), ([9, 3], [9]), ([10], [10]), ([11, 10], [10, 11]), ([12, 10], [10, 12]), ([10, 13], [10, 13]), ([14, 10], [14]), ([15], [15]), ([16, 15], [15, 16]), ([17, 15, 15], [15, 17]), ([18, 15], [15, 18]), ([15, 19], [15, 19]), ([20, 18], [20]), ([21], [21]), ([22, 21], [21, 22]), ([23, 21, 21], [21, 23]), ([24], [24]), ([25, 24], [24, 25]), ([24], [24]), ([24], [24]), ([28, 24], [24, 28]), ([27, 29, 24], [24, 27, 29]), ([30, 24], [24, 30]), ([31, 24], [24, 31]), ([26, 32, 24], [24, 26, 32]), ([24, 33, 21], [21, 24, 33]), ([21, 34], [21, 34])])
def impl_ShiftsOK.B6 : List Nat := [0, 1, 3, 7, 15, 31, 15, 79, 255, 511, 1023, 2047, 4095, 8191, 16383, 32767, 65535, 131071, 262143, 524287, 1048575, 2097151, 4194303, 8388607, 16777215, 33554431, 67108863, 33554431, 33554431, 301989887, 973078527, 2046820351, 4194303999, 8589934591, 17179869183, 34359738367]
theorem impl_ShiftsOK.tab6 : rtab .any (opsOf Try.f31 6) = impl_ShiftsOK.T6 := by kernel_rfl
theorem impl_ShiftsOK.bits6 : waitsOk impl_ShiftsOK.T6.2 impl_ShiftsOK.B6 = true := by kernel_rfl
set_option maxHeartbeats 64000000 in
set_option maxRecDepth 100000 in
theorem impl_ShiftsOK.calls (k : Nat) (A0 : Option Addr) (c0 : Nat) (l0 : List (S139)) (A1 : Option Addr) (c1 : Nat) (l1 : List (S72)) (r : Bool) (w : World) (hr0 : Kd.C k139 w A0 l0.length l0) (hc0 : l0.length ≤ c0) (hr1 : Kd.C k72 w A1 l1.length l1) (hc1 : l1.length ≤ c1) (h : impl_ShiftsOK.f k l0 l1 = some r) :
  Calls Try.prog 31 #[.slice A0 l0.length c0, .slice A1 l1.length c1] w fun e w' => e = .returned (.bool r) ∧ Below w.heap.size w w' := by
 have hu139 := Try.underlying139
 have hu72 := Try.underlying72
 obtain ⟨HR0, HC0, HR1, HC1, HB⟩ := zD5 hr0 hc0 hr1 hc1 (Below.refl w.heap.size w)
 clear hr0 hc0 hr1 hc1
 have H : (if (l0.length : Int) > 8 then (impl_ShiftsOK.j0 k l0 l1 true) else (impl_ShiftsOK.j0 k l0 l1 (decide ((l1.length : Int) > 5)))) = some r := h
 clear h
 have HC3 := za H
 clear H
 go_enter Try.func31, Try.ntmps31
 go_upto_region 1 with (fail)
 go_cut [17] (fun v17 wc => ∃ (kq : Nat) (x17_2 : Bool), v17 = .bool x17_2 ∧ Aside0 (impl_ShiftsOK.j0 kq l0 l1 x17_2 = some r) ∧ Aside0 (kq ≤ k) ∧ Aside0 (Below w.heap.size w wc))
 case first =>
  have H := HC3.out
  clear HC3
  by_cases c4 : (l0.length : Int) > 8
  rotate_left
  ·rw [if_neg c4] at H
   have c4b0 : decide (8 < (l0.length : Int)) = false := decide_eq_false c4
   have c4b1 : decide (8 < l0.length) = false := decide_eq_false (by omega)
   clear c4
   (first | rw [c4b0] | (simp only [i64_w, i32_w]; rw [c4b0]) | skip)
   have H' := za H
   clear H
   go_wp2
   go_meet
   case rel => exact ⟨_, (decide ((l1.length : Int) > 5)), zG129, H', ⟨zH126⟩, ⟨zH99⟩⟩
  rw [if_pos c4] at H
  have c4b0 : decide (8 < (l0.length : Int)) = true := decide_eq_true c4
  have c4b1 : decide (8 < l0.length) = true := decide_eq_true (by omega)
  clear c4
  (first | rw [c4b0] | (simp only [i64_w, i32_w]; rw [c4b0]) | skip)
  have H' := za H
  clear H
  go_wp2
  go_meet
  case rel => exact ⟨_, (true), zG129, H', ⟨zH126⟩, ⟨zH99⟩⟩
 case rest =>
  clear HC3
  try clear c1
  try clear c4
  try clear c4b0
  try clear c4b1
  obtain ⟨kq, x17_2, rfl, HA, HJ2, HB⟩ := hcut
  cases kq with
  | zero => exact absurd HA.out (by simp [impl_ShiftsOK.j0])
  | succ kj2 =>
   have H := HA.out
   clear HA
   simp only [impl_ShiftsOK.j0] at H
   by_cases c5 : x17_2 = true
   ·subst c5
    have H1 : (some false) = some r := by rw [if_pos rfl] at H; exact H
    clear H
    have H := H1
    clear H1
    obtain rfl := Option.some.inj H
    go_wp2
    go_ret
    exact zH38
   replace c5 := Bool.eq_false_iff.mpr c5
   subst c5
   have H1 : (impl_ShiftsOK.l0 kj2 l0 l1 l0 (l0.length : Int) 0) = some r := by rw [if_neg (show ¬ (false = true) by decide)] at H; exact H
   clear H
   have H := H1
   clear H1
   have H' := za H
   clear H
   go_wp2
   go_loopg [20] kj2 (fun kq v20 w' => ∃ (x20_2 : Int), v20 = .int .i64 x20_2 ∧ Aside0 (impl_ShiftsOK.l0 kq l0 l1 l0 (l0.length : Int) x20_2 = some r) ∧ Aside0 (kq ≤ kj2) ∧ Aside0 (Below w.heap.size w w'))
   case atStart => exact ⟨(0), zG129, H', ⟨Nat.le_refl _⟩, ⟨zH99⟩⟩
   case round =>
    clear H'
    try clear c1
    try clear c4
    try clear c4b0
    try clear c4b1
    try clear c5
    obtain ⟨x20_2, rfl, HA, HK2, HB⟩ := hrel
    cases gk with
    | zero => exact absurd HA.out (by simp [impl_ShiftsOK.l0])
    | succ k2 =>
     have H := HA.out
     clear HA
     simp only [impl_ShiftsOK.l0] at H
     by_cases c6 : x20_2 < (l0.length : Int)
     rotate_left
     ·rw [if_neg c6] at H
      have c6b0 := decide_eq_false c6
      clear c6
      obtain ⟨y235, hy235⟩ : ∃ y_ : List ByteArray, y_ = (([] : List ByteArray)) := ⟨_, rfl⟩
      replace H : (impl_ShiftsOK.l1 k2 y235 l1 (l1.length : Int) 0) = some r := by first | (rw [hy235]; with_reducible exact H) | (have H2_ := (Option.bind_some _ _).symm.trans H; rw [hy235]; with_reducible exact H2_) | (have H2_ := (Option.bind_some _ _).symm.trans H; with_reducible exact H2_) | with_reducible exact H | (rw [hy235]; exact H) | exact H
      have Ny235 := za hy235
      clear hy235
      have H' := za H
      clear H
      go_wp2_with (first | ((with_reducible refine gate_dst (N := 62) rfl ?_); (try (refine gate_guard (by rfl) ?_; dsimp only)); refine zbh Kd.string _ 9 ?hg (N := 62) ?hd (xs := ([] : List ByteArray)) (inner := []) (ok := fun _ => True) (okp := fun _ => True) ?hr ?hp (fun _ hk => hk) trivial (Below.refl _ _) (Nat.le_refl _) (by simp) ?_; (case hd => rfl); (case hg => rfl); (case hr => exact zH125); (case hp => exact zH131); intro v236 w47 ho48 hb hg_ hnew_; clear hg_ hnew_; (first | rw [← Ny235.out] at ho48 | (simp only [Int.reduceToNat] at ho48; rw [← Ny235.out] at ho48)); have n_ := zA_ (za (zam ho48 (zo zG102))) (za (zr zG102 hb)); clear HB; obtain ⟨HO237, HB⟩ := n_; clear hb ho48))
      go_loopg [7, 65] k2 (fun kq v7 v65 w' => ∃ (x7_3 : List ByteArray) (x65_3 : Int), v65 = .int .i64 x65_3 ∧ Aside0 (impl_ShiftsOK.l1 kq x7_3 l1 (l1.length : Int) x65_3 = some r) ∧ Aside0 (kq ≤ k2) ∧ Aside0 (Kd.R Kd.string 9 w' w.heap.size (fun _ => True) v7 x7_3) ∧ Aside0 (Below w.heap.size w w'))
      case atStart => exact ⟨(y235), (0), zG129, H', ⟨Nat.le_refl _⟩, ⟨by (with_reducible repeat (first | apply zl | apply zm | apply zn)); exact HO237.out⟩, ⟨zH99⟩⟩
      case round =>
       clear H'
       try clear c6
       try clear c6b0
       obtain ⟨x7_3, x65_3, rfl, HA, HK3, HO_7, HB⟩ := hrel
       cases gk with
       | zero => exact absurd HA.out (by simp [impl_ShiftsOK.l1])
       | succ k3 =>
        have H := HA.out
        clear HA
        simp only [impl_ShiftsOK.l1] at H
        by_cases c49 : x65_3 < (l1.length : Int)
        rotate_left
        ·rw [if_neg c49] at H
         have c49b0 := decide_eq_false c49
         clear c49
         replace H := Option.bind_eq_some_iff.mp H
         obtain ⟨t244, A630, H⟩ := H
         replace H : (some (!t244)) = some r := H
         have A63 := za A630
         clear A630
         obtain rfl := Option.some.inj H
         obtain ⟨Ao64, co64, eo64⟩ := zal HO_7.out
         subst eo64
         go_wp2_with (first | ((with_reducible refine gate_callee (f := 89) rfl ?_); refine goesL_ (some 79) rfl rfl Try.func89 zG130 rfl #[.slice Ao64 x7_3.length co64] rfl zG93 ?_; (with_reducible refine (impl_hasTwice_string.calls k3 _ _ x7_3 t244 _ ?side1 ?side2 A63.out).mono ?_); (case side1 => repeat (first | exact (zad HO_7.out).2.2 | (with_reducible refine zaa ?_ _) | (with_reducible refine zab ?_ _) | (with_reducible refine zac ?_))); (case side2 => exact (zad HO_7.out).2.1); rintro e w' ⟨rfl, ⟨nd, rfl⟩⟩; refine ⟨_, rfl, ?_⟩))
         go_ret
         exact zH38

        rw [if_pos c49] at H
        have c49b0 := decide_eq_true c49
        clear c49
        by_cases c50 : 0 ≤ x65_3
        rotate_left
        ·rw [if_neg c50] at H
         exact absurd H (by simp)
        rw [if_pos c50] at H
        have c50b0 := decide_eq_true c50
        clear c50
        by_cases c51 : x65_3 < (l1.length : Int)
        rotate_left
        ·rw [if_neg c51] at H
         exact absurd H (by simp)
        rw [if_pos c51] at H
        have c51b0 := decide_eq_true c51
        clear c51
        replace H := Option.bind_eq_some_iff.mp H
        obtain ⟨t240, A520, H⟩ := H
        replace H : (if t240 = true then (if x7_3.length < 8796093022208 then (impl_ShiftsOK.l1 k3 (x7_3 ++ [(rd_T72 l1 x65_3).f0]) l1 (l1.length : Int) (wrap64 (x65_3 + 1))) else (none)) else (some false)) = some r := H
        have A52 := za A520
        clear A520
        by_cases c53 : t240 = true
        rotate_left
        ·replace c53 := Bool.eq_false_iff.mpr c53
         subst c53
         have H1 : (some false) = some r := by rw [if_neg (show ¬ (false = true) by decide)] at H; exact H
         clear H
         have H := H1
         clear H1
         obtain rfl := Option.some.inj H
         have p238 : 0 ≤ (x65_3 : Int) := zO
         have q238 : x65_3 < (l1.length : Int) := zO
         obtain ⟨ad238, A238_4, c238_4, e238, hx238_0, hx238_1, hx238_2, hx238_3, hx238_4, hl238_4, hi238_4⟩ := at_T72 HR1.out x65_3 p238 q238
         cases e238
         replace hx238_0 := (HB.out.cell (zb w _ hx238_0)).trans hx238_0
         replace hx238_1 := (HB.out.cell (zb w _ hx238_1)).trans hx238_1
         replace hx238_2 := (HB.out.cell (zb w _ hx238_2)).trans hx238_2
         replace hx238_3 := (HB.out.cell (zb w _ hx238_3)).trans hx238_3
         replace hx238_4 := (HB.out.cell (zb w _ hx238_4)).trans hx238_4
         obtain ⟨HR238_4, HC238_4⟩ := zD2 hi238_4 hl238_4
         clear hi238_4 hl238_4
         replace p238 := eq_true p238
         replace q238 := eq_true q238
         go_wp2_with (first | ((with_reducible refine gate_dst (N := 9) rfl ?_); (try (refine gate_guard (by rfl) ?_; dsimp only)); refine box_event ?hg (N := 9) ?hd (cs := #[.string (⟨#[]⟩ : ByteArray), .int .i64 0, .int .i64 0, .int .i64 0, .slice none 0 0]) (t := 72) ?hr ?_; (case hd => rfl); (case hg => rfl); (case hr => exact zH125); intro gb239 hg w60 hbox hb; have n_ := zA_ (za (zq zK261 hb)) (zA_ (za (zr zG102 hb)) (zA_ (za (hbox)) (zA_ (zN1 w.heap.size hg (zo zG102)) (zN1 w.heap.size hg (zo zG102))))); clear HO_7 HB; obtain ⟨HO_7, HB, BK239, GW239, GE239⟩ := n_; clear hb hbox hg; obtain ⟨hcz61_0, hcz61_1, hcz61_2, hcz61_3, hcz61_4, hfz61_0, hfz61_1, hfz61_2, hfz61_3, hfz61_4⟩ := zB5 BK239.out) | ((with_reducible refine gate_callee (f := 99) rfl ?_); refine goesL_ (some 70) rfl rfl Try.func99 zG130 rfl #[.agg #[.string ((rd_T72 l1 x65_3).f0), .int .i64 ((rd_T72 l1 x65_3).f1), .int .i64 ((rd_T72 l1 x65_3).f2), .int .i64 ((rd_T72 l1 x65_3).f3), .slice A238_4 ((rd_T72 l1 x65_3).f4).length c238_4]] rfl zG93 ?_; (with_reducible refine (impl_isWorker.calls k3 ((rd_T72 l1 x65_3).f0) ((rd_T72 l1 x65_3).f1) ((rd_T72 l1 x65_3).f2) ((rd_T72 l1 x65_3).f3) _ _ ((rd_T72 l1 x65_3).f4) false _ ?side1 ?side2 A52.out).mono ?_); (case side1 => exact zH56); (case side2 => exact HC238_4.out); rintro e w62 ⟨rfl, hb⟩; refine ⟨_, rfl, ?_⟩; have n_ := zA_ (za (zq zK134 hb)) (zA_ (za (zp (g := gb239) (o := .cells #[.string ((rd_T72 l1 x65_3).f0), .int .i64 ((rd_T72 l1 x65_3).f1), .int .i64 ((rd_T72 l1 x65_3).f2), .int .i64 ((rd_T72 l1 x65_3).f3), .slice A238_4 ((rd_T72 l1 x65_3).f4).length c238_4] 72 (0, 0)) zK133 hb)) (za (zr zK219 hb))); clear HO_7 BK239 HB; obtain ⟨HO_7, BK239, HB⟩ := n_; (try clear hb); (try clear hk)))
         go_ret
         exact ⟨zH113, zH80⟩
        subst c53
        have H1 : (if x7_3.length < 8796093022208 then (impl_ShiftsOK.l1 k3 (x7_3 ++ [(rd_T72 l1 x65_3).f0]) l1 (l1.length : Int) (wrap64 (x65_3 + 1))) else (none)) = some r := by rw [if_pos rfl] at H; exact H
        clear H
        have H := H1
        clear H1
        by_cases c54 : x7_3.length < 8796093022208
        rotate_left
        ·rw [if_neg c54] at H
         exact absurd H (by simp)
        rw [if_pos c54] at H
        have LMc54 := za c54
        clear c54
        obtain ⟨y241, hy241⟩ : ∃ y_ : List ByteArray, y_ = (x7_3 ++ [(rd_T72 l1 x65_3).f0]) := ⟨_, rfl⟩
        replace H : (impl_ShiftsOK.l1 k3 y241 l1 (l1.length : Int) (wrap64 (x65_3 + 1))) = some r := by first | (rw [hy241]; with_reducible exact H) | (have H2_ := (Option.bind_some _ _).symm.trans H; rw [hy241]; with_reducible exact H2_) | (have H2_ := (Option.bind_some _ _).symm.trans H; with_reducible exact H2_) | with_reducible exact H | (rw [hy241]; exact H) | exact H
        have Ny241 := za hy241
        clear hy241
        have H' := za H
        clear H
        have p238 : 0 ≤ (x65_3 : Int) := zO
        have q238 : x65_3 < (l1.length : Int) := zO
        obtain ⟨ad238, A238_4, c238_4, e238, hx238_0, hx238_1, hx238_2, hx238_3, hx238_4, hl238_4, hi238_4⟩ := at_T72 HR1.out x65_3 p238 q238
        cases e238
        replace hx238_0 := (HB.out.cell (zb w _ hx238_0)).trans hx238_0
        replace hx238_1 := (HB.out.cell (zb w _ hx238_1)).trans hx238_1
        replace hx238_2 := (HB.out.cell (zb w _ hx238_2)).trans hx238_2
        replace hx238_3 := (HB.out.cell (zb w _ hx238_3)).trans hx238_3
        replace hx238_4 := (HB.out.cell (zb w _ hx238_4)).trans hx238_4
        obtain ⟨HR238_4, HC238_4⟩ := zD2 hi238_4 hl238_4
        clear hi238_4 hl238_4
        replace p238 := eq_true p238
        replace q238 := eq_true q238
        go_wp2_with (first | ((with_reducible refine gate_dst (N := 9) rfl ?_); (try (refine gate_guard (by rfl) ?_; dsimp only)); refine box_event ?hg (N := 9) ?hd (cs := #[.string (⟨#[]⟩ : ByteArray), .int .i64 0, .int .i64 0, .int .i64 0, .slice none 0 0]) (t := 72) ?hr ?_; (case hd => rfl); (case hg => rfl); (case hr => exact zH125); intro gb239 hg w55 hbox hb; have n_ := zA_ (za (zq zK261 hb)) (zA_ (za (zr zG102 hb)) (zA_ (za (hbox)) (zA_ (zN1 w.heap.size hg (zo zG102)) (zN1 w.heap.size hg (zo zG102))))); clear HO_7 HB; obtain ⟨HO_7, HB, BK239, GW239, GE239⟩ := n_; clear hb hbox hg; obtain ⟨hcz56_0, hcz56_1, hcz56_2, hcz56_3, hcz56_4, hfz56_0, hfz56_1, hfz56_2, hfz56_3, hfz56_4⟩ := zB5 BK239.out) | ((with_reducible refine gate_callee (f := 99) rfl ?_); refine goesL_ (some 70) rfl rfl Try.func99 zG130 rfl #[.agg #[.string ((rd_T72 l1 x65_3).f0), .int .i64 ((rd_T72 l1 x65_3).f1), .int .i64 ((rd_T72 l1 x65_3).f2), .int .i64 ((rd_T72 l1 x65_3).f3), .slice A238_4 ((rd_T72 l1 x65_3).f4).length c238_4]] rfl zG93 ?_; (with_reducible refine (impl_isWorker.calls k3 ((rd_T72 l1 x65_3).f0) ((rd_T72 l1 x65_3).f1) ((rd_T72 l1 x65_3).f2) ((rd_T72 l1 x65_3).f3) _ _ ((rd_T72 l1 x65_3).f4) true _ ?side1 ?side2 A52.out).mono ?_); (case side1 => exact zH56); (case side2 => exact HC238_4.out); rintro e w57 ⟨rfl, hb⟩; refine ⟨_, rfl, ?_⟩; have n_ := zA_ (za (zq zK134 hb)) (zA_ (za (zp (g := gb239) (o := .cells #[.string ((rd_T72 l1 x65_3).f0), .int .i64 ((rd_T72 l1 x65_3).f1), .int .i64 ((rd_T72 l1 x65_3).f2), .int .i64 ((rd_T72 l1 x65_3).f3), .slice A238_4 ((rd_T72 l1 x65_3).f4).length c238_4] 72 (0, 0)) zK133 hb)) (za (zr zK219 hb))); clear HO_7 BK239 HB; obtain ⟨HO_7, BK239, HB⟩ := n_; (try clear hb); (try clear hk); obtain ⟨hcz58_0, hcz58_1, hcz58_2, hcz58_3, hcz58_4, hfz58_0, hfz58_1, hfz58_2, hfz58_3, hfz58_4⟩ := zB5 BK239.out) | ((with_reducible refine gate_builtin (b := .append) (xs := #[.tmp 72, .tmp 75]) rfl ?_); (try (refine gate_guard (by rfl) ?_; dsimp only)); at_builtin; refine zbx Kd.string (w0 := w) w.heap.size rfl (.tmp 72) (.tmp 75) 70 9 (.string ⟨#[]⟩) 16 rfl Try.underlying70 info9 rfl zG131 (by omega) u7 x7_3 ((rd_T72 l1 x65_3).f0) [.string ((rd_T72 l1 x65_3).f0)] (fun _ => True) (fun _ => False) rfl rfl ?aP (fun _ hk => hk.elim) ?aF ?aO ?aB ?aS ?aL ?_; (case aP => exact rfl); (case aB => exact zK219); (case aF => exact (fun _ _ => trivial)); (case aO => exact zK261); (case aS => exact (zo zK219)); (case aL => have := LMc54.out; omega); intro v242 w59 ho hb hg hat; rw [← Ny241.out] at ho; have n_ := zA_ (za (zas (g := gb239) (o := .cells #[.string ((rd_T72 l1 x65_3).f0), .int .i64 ((rd_T72 l1 x65_3).f1), .int .i64 ((rd_T72 l1 x65_3).f2), .int .i64 ((rd_T72 l1 x65_3).f3), .slice A238_4 ((rd_T72 l1 x65_3).f4).length c238_4] 72 (0, 0)) (by (with_reducible repeat (first | refine zd ?_ _ | refine zg ?_ | refine ze ?_ _)); exact BK239.out) hg (zbj HO_7.out BK239.out zG131))) (zA_ (za (hb)) (za (ho))); clear BK239 HB HO_7; obtain ⟨BK239, HB, HO243⟩ := n_; clear ho hb hg hat))
        go_roundg k3
        case measure => have := HJ2.out; have := HK2.out; have := HK3.out; omega
        case rel => exact ⟨(y241), (wrap64 (x65_3 + 1)), zG129, H', ⟨by have := HJ2.out; have := HK2.out; have := HK3.out; omega⟩, ⟨by (with_reducible repeat (first | apply zl | apply zm | apply zn)); exact HO243.out⟩, ⟨zH80⟩⟩
     rw [if_pos c6] at H
     have c6b0 := decide_eq_true c6
     clear c6
     by_cases c7 : 0 ≤ x20_2
     rotate_left
     ·rw [if_neg c7] at H
      exact absurd H (by simp)
     rw [if_pos c7] at H
     have c7b0 := decide_eq_true c7
     clear c7
     by_cases c8 : x20_2 < (l0.length : Int)
     rotate_left
     ·rw [if_neg c8] at H
      exact absurd H (by simp)
     rw [if_pos c8] at H
     have c8b0 := decide_eq_true c8
     clear c8
     by_cases c9 : ((rd_T139 l0 x20_2).f0) < 0
     ·rw [if_pos c9] at H
      have c9b0 := decide_eq_true c9
      clear c9
      obtain rfl := Option.some.inj H
      have p231 : 0 ≤ (x20_2 : Int) := zO
      have q231 : x20_2 < (l0.length : Int) := zO
      obtain ⟨ad231, e231, hx231_0, hx231_1, hx231_2⟩ := at_T139 HR0.out x20_2 p231 q231
      cases e231
      replace hx231_0 := (HB.out.cell (zb w _ hx231_0)).trans hx231_0
      replace hx231_1 := (HB.out.cell (zb w _ hx231_1)).trans hx231_1
      replace hx231_2 := (HB.out.cell (zb w _ hx231_2)).trans hx231_2
      replace p231 := eq_true p231
      replace q231 := eq_true q231
      try go_wp2_with (first | ((with_reducible refine gate_dst (N := 6) rfl ?_); (try (refine gate_guard (by rfl) ?_; dsimp only)); refine box_event ?hg (N := 6) ?hd (cs := #[.int .i64 0, .int .i64 0, .string (⟨#[]⟩ : ByteArray)]) (t := 139) ?hr ?_; (case hd => rfl); (case hg => rfl); (case hr => exact zH125); intro gb232 hg w10 hbox hb; have n_ := zA_ (za (zr zG102 hb)) (zA_ (za (hbox)) (zA_ (zN1 w.heap.size hg (zo zG102)) (zN1 w.heap.size hg (zo zG102)))); clear HB; obtain ⟨HB, BK232, GW232, GE232⟩ := n_; clear hb hbox hg; obtain ⟨hcz11_0, hcz11_1, hcz11_2, hfz11_0, hfz11_1, hfz11_2⟩ := zB3 BK232.out))
      have n0_ : Aside0 ((((w10.setCell ⟨gb232, 0, none⟩ (.int .i64 ((rd_T139 l0 x20_2).f0))).setCell ⟨gb232, 1, none⟩ (.int .i64 ((rd_T139 l0 x20_2).f1))).setCell ⟨gb232, 2, none⟩ (.string ((rd_T139 l0 x20_2).f2))).heap[gb232]? = some (.cells #[.int .i64 ((rd_T139 l0 x20_2).f0), .int .i64 ((rd_T139 l0 x20_2).f1), .string ((rd_T139 l0 x20_2).f2)] 139 (0, 0))) := ⟨zH2⟩
      have n1_ : Aside0 (Below w.heap.size w (((w10.setCell ⟨gb232, 0, none⟩ (.int .i64 ((rd_T139 l0 x20_2).f0))).setCell ⟨gb232, 1, none⟩ (.int .i64 ((rd_T139 l0 x20_2).f1))).setCell ⟨gb232, 2, none⟩ (.string ((rd_T139 l0 x20_2).f2)))) := ⟨zH87⟩
      (try clear BK232)
      (try clear HB)
      generalize (((w10.setCell ⟨gb232, 0, none⟩ (.int .i64 ((rd_T139 l0 x20_2).f0))).setCell ⟨gb232, 1, none⟩ (.int .i64 ((rd_T139 l0 x20_2).f1))).setCell ⟨gb232, 2, none⟩ (.string ((rd_T139 l0 x20_2).f2))) = w12 at n0_ n1_ ⊢
      have BK232 := n0_
      have HB := n1_
      clear n0_ n1_
      obtain ⟨n0_, n1_⟩ := zD2 (zg BK232.out) (zh HB.out)
      clear BK232 HB
      have BK232 := n0_
      have HB := n1_
      clear n0_ n1_
      refine start_ (n := 36) (S := fun w' => w'.cell? ⟨gb232, 0, none⟩ = some (.int .i64 ((rd_T139 l0 x20_2).f0)) ∧ w'.cell? ⟨gb232, 1, none⟩ = some (.int .i64 ((rd_T139 l0 x20_2).f1)) ∧ w'.cell? ⟨gb232, 2, none⟩ = some (.string ((rd_T139 l0 x20_2).f2))) (ds := []) b5A0 zG130 rfl rfl ⟨(zk BK232.out 0).trans rfl, (zk BK232.out 1).trans rfl, (zk BK232.out 2).trans rfl⟩ (fun hHeld => ?_); refine with_tabW impl_ShiftsOK.tab6 impl_ShiftsOK.bits6 (fun HT_ HW_ => ?_)
      generalize w12.drew = w13 at BK232 HB hHeld ⊢
      refine zP 0 25 b5A1 HT_ ?_
      refine zQ 1 26 b5A2 HT_ HW_ hHeld ?_
      refine zP 2 27 b5A3 HT_ ?_
      refine zP 3 28 b5A4 HT_ ?_
      refine zU 4 29 b5A5 HT_ ?_
      refine zU 5 30 #[true, true, true, true, true, true, false, false, false, false, false, false, false, false, false, false, false, false, false, false, false, false, false, false, false, false, false, false, false, false, false, false, false, false, false, false] HT_ ?_
      refine zU 6 31 b5A6 HT_ ?_
      refine zU 7 32 b5A7 HT_ ?_
      refine zU 8 33 b5A8 HT_ ?_
      refine zP 9 34 b5A9 HT_ ?_
      refine zP 10 35 b5A10 HT_ ?_
      refine zU 11 36 b5A11 HT_ ?_
      refine zU 12 37 b5A12 HT_ ?_
      refine zU 13 38 b5A13 HT_ ?_
      refine zP 14 39 b5A14 HT_ ?_
      refine zP 15 40 b5A15 HT_ ?_
      refine zU 16 41 b5A16 HT_ ?_
      refine zU 17 42 b5A17 HT_ ?_
      refine zU 18 43 b5A18 HT_ ?_
      refine zU 19 44 b5A19 HT_ ?_
      refine zP 20 45 b5A20 HT_ ?_
      refine zP 21 46 b5A21 HT_ ?_
      refine zU 22 47 b5A22 HT_ ?_
      refine zU 23 48 b5A23 HT_ ?_
      refine zU 24 49 b5A24 HT_ ?_
      refine zU 25 50 b5A25 HT_ ?_
      refine zU 26 51 b5A32 HT_ ?_
      refine zU 27 52 b5A33 HT_ ?_
      refine zU 28 53 b5A34 HT_ ?_
      refine zU 29 54 b5A35 HT_ ?_
      refine zU 30 55 b5A36 HT_ ?_
      refine zU 31 56 b5A26 HT_ ?_
      refine zU 32 57 b5A27 HT_ ?_
      refine zU 33 58 b5A28 HT_ ?_
      refine zU 34 59 b5A29 HT_ ?_
      refine zP 35 60 b5A30 HT_ ?_
      refine done_ (done_of HT_.out zG130) ?_
      try go_wp2
      go_ret
      exact zH29
     rw [if_neg c9] at H
     have c9b0 := decide_eq_false c9
     clear c9
     by_cases c14 : ((rd_T139 l0 x20_2).f0) ≥ ((rd_T139 l0 x20_2).f1)
     ·rw [if_pos c14] at H
      have c14b0 : decide (((rd_T139 l0 x20_2).f1) ≤ ((rd_T139 l0 x20_2).f0)) = true := decide_eq_true c14
      clear c14
      obtain rfl := Option.some.inj H
      have p231 : 0 ≤ (x20_2 : Int) := zO
      have q231 : x20_2 < (l0.length : Int) := zO
      obtain ⟨ad231, e231, hx231_0, hx231_1, hx231_2⟩ := at_T139 HR0.out x20_2 p231 q231
      cases e231
      replace hx231_0 := (HB.out.cell (zb w _ hx231_0)).trans hx231_0
      replace hx231_1 := (HB.out.cell (zb w _ hx231_1)).trans hx231_1
      replace hx231_2 := (HB.out.cell (zb w _ hx231_2)).trans hx231_2
      replace p231 := eq_true p231
      replace q231 := eq_true q231
      try go_wp2_with (first | ((with_reducible refine gate_dst (N := 6) rfl ?_); (try (refine gate_guard (by rfl) ?_; dsimp only)); refine box_event ?hg (N := 6) ?hd (cs := #[.int .i64 0, .int .i64 0, .string (⟨#[]⟩ : ByteArray)]) (t := 139) ?hr ?_; (case hd => rfl); (case hg => rfl); (case hr => exact zH125); intro gb232 hg w15 hbox hb; have n_ := zA_ (za (zr zG102 hb)) (zA_ (za (hbox)) (zA_ (zN1 w.heap.size hg (zo zG102)) (zN1 w.heap.size hg (zo zG102)))); clear HB; obtain ⟨HB, BK232, GW232, GE232⟩ := n_; clear hb hbox hg; obtain ⟨hcz16_0, hcz16_1, hcz16_2, hfz16_0, hfz16_1, hfz16_2⟩ := zB3 BK232.out))
      have n0_ : Aside0 ((((w15.setCell ⟨gb232, 0, none⟩ (.int .i64 ((rd_T139 l0 x20_2).f0))).setCell ⟨gb232, 1, none⟩ (.int .i64 ((rd_T139 l0 x20_2).f1))).setCell ⟨gb232, 2, none⟩ (.string ((rd_T139 l0 x20_2).f2))).heap[gb232]? = some (.cells #[.int .i64 ((rd_T139 l0 x20_2).f0), .int .i64 ((rd_T139 l0 x20_2).f1), .string ((rd_T139 l0 x20_2).f2)] 139 (0, 0))) := ⟨zH2⟩
      have n1_ : Aside0 (Below w.heap.size w (((w15.setCell ⟨gb232, 0, none⟩ (.int .i64 ((rd_T139 l0 x20_2).f0))).setCell ⟨gb232, 1, none⟩ (.int .i64 ((rd_T139 l0 x20_2).f1))).setCell ⟨gb232, 2, none⟩ (.string ((rd_T139 l0 x20_2).f2)))) := ⟨zH87⟩
      (try clear BK232)
      (try clear HB)
      generalize (((w15.setCell ⟨gb232, 0, none⟩ (.int .i64 ((rd_T139 l0 x20_2).f0))).setCell ⟨gb232, 1, none⟩ (.int .i64 ((rd_T139 l0 x20_2).f1))).setCell ⟨gb232, 2, none⟩ (.string ((rd_T139 l0 x20_2).f2))) = w17 at n0_ n1_ ⊢
      have BK232 := n0_
      have HB := n1_
      clear n0_ n1_
      obtain ⟨n0_, n1_⟩ := zD2 (zg BK232.out) (zh HB.out)
      clear BK232 HB
      have BK232 := n0_
      have HB := n1_
      clear n0_ n1_
      refine start_ (n := 36) (S := fun w' => w'.cell? ⟨gb232, 0, none⟩ = some (.int .i64 ((rd_T139 l0 x20_2).f0)) ∧ w'.cell? ⟨gb232, 1, none⟩ = some (.int .i64 ((rd_T139 l0 x20_2).f1)) ∧ w'.cell? ⟨gb232, 2, none⟩ = some (.string ((rd_T139 l0 x20_2).f2))) (ds := []) b5A0 zG130 rfl rfl ⟨(zk BK232.out 0).trans rfl, (zk BK232.out 1).trans rfl, (zk BK232.out 2).trans rfl⟩ (fun hHeld => ?_); refine with_tabW impl_ShiftsOK.tab6 impl_ShiftsOK.bits6 (fun HT_ HW_ => ?_)
      generalize w17.drew = w18 at BK232 HB hHeld ⊢
      refine zP 0 25 b5A1 HT_ ?_
      refine zQ 1 26 b5A2 HT_ HW_ hHeld ?_
      refine zP 2 27 b5A3 HT_ ?_
      refine zP 3 28 b5A4 HT_ ?_
      refine zP 4 29 b5A5 HT_ ?_
      refine zP 6 31 b5A31 HT_ ?_
      refine zQ 5 30 b5A6 HT_ HW_ hHeld ?_
      refine zQ 7 32 b5A7 HT_ HW_ hHeld ?_
      refine zP 8 33 b5A8 HT_ ?_
      refine zP 9 34 b5A9 HT_ ?_
      refine zP 10 35 b5A10 HT_ ?_
      refine zU 11 36 b5A11 HT_ ?_
      refine zU 12 37 b5A12 HT_ ?_
      refine zU 13 38 b5A13 HT_ ?_
      refine zP 14 39 b5A14 HT_ ?_
      refine zP 15 40 b5A15 HT_ ?_
      refine zU 16 41 b5A16 HT_ ?_
      refine zU 17 42 b5A17 HT_ ?_
      refine zU 18 43 b5A18 HT_ ?_
      refine zU 19 44 b5A19 HT_ ?_
      refine zP 20 45 b5A20 HT_ ?_
      refine zP 21 46 b5A21 HT_ ?_
      refine zU 22 47 b5A22 HT_ ?_
      refine zU 23 48 b5A23 HT_ ?_
      refine zU 24 49 b5A24 HT_ ?_
      refine zU 25 50 b5A25 HT_ ?_
      refine zU 26 51 b5A32 HT_ ?_
      refine zU 27 52 b5A33 HT_ ?_
      refine zU 28 53 b5A34 HT_ ?_
      refine zU 29 54 b5A35 HT_ ?_
      refine zU 30 55 b5A36 HT_ ?_
      refine zU 31 56 b5A26 HT_ ?_
      refine zU 32 57 b5A27 HT_ ?_
      refine zU 33 58 b5A28 HT_ ?_
      refine zU 34 59 b5A29 HT_ ?_
      refine zP 35 60 b5A30 HT_ ?_
      refine done_ (done_of HT_.out zG130) ?_
      try go_wp2
      go_ret
      exact zH29
     rw [if_neg c14] at H
     have c14b0 : decide (((rd_T139 l0 x20_2).f1) ≤ ((rd_T139 l0 x20_2).f0)) = false := decide_eq_false c14
     clear c14
     by_cases c19 : ((rd_T139 l0 x20_2).f1) > 10080
     ·rw [if_pos c19] at H
      have c19b0 : decide (10080 < ((rd_T139 l0 x20_2).f1)) = true := decide_eq_true c19
      clear c19
      obtain rfl := Option.some.inj H
      have p231 : 0 ≤ (x20_2 : Int) := zO
      have q231 : x20_2 < (l0.length : Int) := zO
      obtain ⟨ad231, e231, hx231_0, hx231_1, hx231_2⟩ := at_T139 HR0.out x20_2 p231 q231
      cases e231
      replace hx231_0 := (HB.out.cell (zb w _ hx231_0)).trans hx231_0
      replace hx231_1 := (HB.out.cell (zb w _ hx231_1)).trans hx231_1
      replace hx231_2 := (HB.out.cell (zb w _ hx231_2)).trans hx231_2
      replace p231 := eq_true p231
      replace q231 := eq_true q231
      try go_wp2_with (first | ((with_reducible refine gate_dst (N := 6) rfl ?_); (try (refine gate_guard (by rfl) ?_; dsimp only)); refine box_event ?hg (N := 6) ?hd (cs := #[.int .i64 0, .int .i64 0, .string (⟨#[]⟩ : ByteArray)]) (t := 139) ?hr ?_; (case hd => rfl); (case hg => rfl); (case hr => exact zH125); intro gb232 hg w20 hbox hb; have n_ := zA_ (za (zr zG102 hb)) (zA_ (za (hbox)) (zA_ (zN1 w.heap.size hg (zo zG102)) (zN1 w.heap.size hg (zo zG102)))); clear HB; obtain ⟨HB, BK232, GW232, GE232⟩ := n_; clear hb hbox hg; obtain ⟨hcz21_0, hcz21_1, hcz21_2, hfz21_0, hfz21_1, hfz21_2⟩ := zB3 BK232.out))
      have n0_ : Aside0 ((((w20.setCell ⟨gb232, 0, none⟩ (.int .i64 ((rd_T139 l0 x20_2).f0))).setCell ⟨gb232, 1, none⟩ (.int .i64 ((rd_T139 l0 x20_2).f1))).setCell ⟨gb232, 2, none⟩ (.string ((rd_T139 l0 x20_2).f2))).heap[gb232]? = some (.cells #[.int .i64 ((rd_T139 l0 x20_2).f0), .int .i64 ((rd_T139 l0 x20_2).f1), .string ((rd_T139 l0 x20_2).f2)] 139 (0, 0))) := ⟨zH2⟩
      have n1_ : Aside0 (Below w.heap.size w (((w20.setCell ⟨gb232, 0, none⟩ (.int .i64 ((rd_T139 l0 x20_2).f0))).setCell ⟨gb232, 1, none⟩ (.int .i64 ((rd_T139 l0 x20_2).f1))).setCell ⟨gb232, 2, none⟩ (.string ((rd_T139 l0 x20_2).f2)))) := ⟨zH87⟩
      (try clear BK232)
      (try clear HB)
      generalize (((w20.setCell ⟨gb232, 0, none⟩ (.int .i64 ((rd_T139 l0 x20_2).f0))).setCell ⟨gb232, 1, none⟩ (.int .i64 ((rd_T139 l0 x20_2).f1))).setCell ⟨gb232, 2, none⟩ (.string ((rd_T139 l0 x20_2).f2))) = w22 at n0_ n1_ ⊢
      have BK232 := n0_
      have HB := n1_
      clear n0_ n1_
      obtain ⟨n0_, n1_⟩ := zD2 (zg BK232.out) (zh HB.out)
      clear BK232 HB
      have BK232 := n0_
      have HB := n1_
      clear n0_ n1_
      refine start_ (n := 36) (S := fun w' => w'.cell? ⟨gb232, 0, none⟩ = some (.int .i64 ((rd_T139 l0 x20_2).f0)) ∧ w'.cell? ⟨gb232, 1, none⟩ = some (.int .i64 ((rd_T139 l0 x20_2).f1)) ∧ w'.cell? ⟨gb232, 2, none⟩ = some (.string ((rd_T139 l0 x20_2).f2))) (ds := []) b5A0 zG130 rfl rfl ⟨(zk BK232.out 0).trans rfl, (zk BK232.out 1).trans rfl, (zk BK232.out 2).trans rfl⟩ (fun hHeld => ?_); refine with_tabW impl_ShiftsOK.tab6 impl_ShiftsOK.bits6 (fun HT_ HW_ => ?_)
      generalize w22.drew = w23 at BK232 HB hHeld ⊢
      refine zP 0 25 b5A1 HT_ ?_
      refine zQ 1 26 b5A2 HT_ HW_ hHeld ?_
      refine zP 2 27 b5A3 HT_ ?_
      refine zP 3 28 b5A4 HT_ ?_
      refine zP 4 29 b5A5 HT_ ?_
      refine zP 6 31 b5A31 HT_ ?_
      refine zQ 5 30 b5A6 HT_ HW_ hHeld ?_
      refine zQ 7 32 b5A7 HT_ HW_ hHeld ?_
      refine zP 8 33 b5A8 HT_ ?_
      refine zP 9 34 b5A9 HT_ ?_
      refine zP 10 35 b5A10 HT_ ?_
      refine zP 11 36 b5A11 HT_ ?_
      refine zQ 12 37 b5A12 HT_ HW_ hHeld ?_
      refine zP 13 38 b5A13 HT_ ?_
      refine zP 14 39 b5A14 HT_ ?_
      refine zP 15 40 b5A15 HT_ ?_
      refine zU 16 41 b5A16 HT_ ?_
      refine zU 17 42 b5A17 HT_ ?_
      refine zU 18 43 b5A18 HT_ ?_
      refine zU 19 44 b5A19 HT_ ?_
      refine zP 20 45 b5A20 HT_ ?_
      refine zP 21 46 b5A21 HT_ ?_
      refine zU 22 47 b5A22 HT_ ?_
      refine zU 23 48 b5A23 HT_ ?_
      refine zU 24 49 b5A24 HT_ ?_
      refine zU 25 50 b5A25 HT_ ?_
      refine zU 26 51 b5A32 HT_ ?_
      refine zU 27 52 b5A33 HT_ ?_
      refine zU 28 53 b5A34 HT_ ?_
      refine zU 29 54 b5A35 HT_ ?_
      refine zU 30 55 b5A36 HT_ ?_
      refine zU 31 56 b5A26 HT_ ?_
      refine zU 32 57 b5A27 HT_ ?_
      refine zU 33 58 b5A28 HT_ ?_
      refine zU 34 59 b5A29 HT_ ?_
      refine zP 35 60 b5A30 HT_ ?_
      refine done_ (done_of HT_.out zG130) ?_
      try go_wp2
      go_ret
      exact zH29
     rw [if_neg c19] at H
     have c19b0 : decide (10080 < ((rd_T139 l0 x20_2).f1)) = false := decide_eq_false c19
     clear c19
     replace H := Option.bind_eq_some_iff.mp H
     obtain ⟨t233, A240, H⟩ := H
     replace H : (if t233 = true then (if x20_2 > 0 then (if 0 ≤ (wrap64 (x20_2 - 1)) then (if (wrap64 (x20_2 - 1)) < (l0.length : Int) then (if ((rd_T139 l0 x20_2).f0) < ((rd_T139 l0 (wrap64 (x20_2 - 1))).f0) then (some false) else (impl_ShiftsOK.l0 k2 l0 l1 l0 (l0.length : Int) (wrap64 (x20_2 + 1)))) else (none)) else (none)) else (impl_ShiftsOK.l0 k2 l0 l1 l0 (l0.length : Int) (wrap64 (x20_2 + 1)))) else (some false)) = some r := H
     have A24 := za A240
     clear A240
     by_cases c25 : t233 = true
     rotate_left
     ·replace c25 := Bool.eq_false_iff.mpr c25
      subst c25
      have H1 : (some false) = some r := by rw [if_neg (show ¬ (false = true) by decide)] at H; exact H
      clear H
      have H := H1
      clear H1
      obtain rfl := Option.some.inj H
      have p231 : 0 ≤ (x20_2 : Int) := zO
      have q231 : x20_2 < (l0.length : Int) := zO
      obtain ⟨ad231, e231, hx231_0, hx231_1, hx231_2⟩ := at_T139 HR0.out x20_2 p231 q231
      cases e231
      replace hx231_0 := (HB.out.cell (zb w _ hx231_0)).trans hx231_0
      replace hx231_1 := (HB.out.cell (zb w _ hx231_1)).trans hx231_1
      replace hx231_2 := (HB.out.cell (zb w _ hx231_2)).trans hx231_2
      replace p231 := eq_true p231
      replace q231 := eq_true q231
      try go_wp2_with (first | ((with_reducible refine gate_dst (N := 6) rfl ?_); (try (refine gate_guard (by rfl) ?_; dsimp only)); refine box_event ?hg (N := 6) ?hd (cs := #[.int .i64 0, .int .i64 0, .string (⟨#[]⟩ : ByteArray)]) (t := 139) ?hr ?_; (case hd => rfl); (case hg => rfl); (case hr => exact zH125); intro gb232 hg w43 hbox hb; have n_ := zA_ (za (zr zG102 hb)) (zA_ (za (hbox)) (zA_ (zN1 w.heap.size hg (zo zG102)) (zN1 w.heap.size hg (zo zG102)))); clear HB; obtain ⟨HB, BK232, GW232, GE232⟩ := n_; clear hb hbox hg; obtain ⟨hcz44_0, hcz44_1, hcz44_2, hfz44_0, hfz44_1, hfz44_2⟩ := zB3 BK232.out))
      have n0_ : Aside0 ((((w43.setCell ⟨gb232, 0, none⟩ (.int .i64 ((rd_T139 l0 x20_2).f0))).setCell ⟨gb232, 1, none⟩ (.int .i64 ((rd_T139 l0 x20_2).f1))).setCell ⟨gb232, 2, none⟩ (.string ((rd_T139 l0 x20_2).f2))).heap[gb232]? = some (.cells #[.int .i64 ((rd_T139 l0 x20_2).f0), .int .i64 ((rd_T139 l0 x20_2).f1), .string ((rd_T139 l0 x20_2).f2)] 139 (0, 0))) := ⟨zH2⟩
      have n1_ : Aside0 (Below w.heap.size w (((w43.setCell ⟨gb232, 0, none⟩ (.int .i64 ((rd_T139 l0 x20_2).f0))).setCell ⟨gb232, 1, none⟩ (.int .i64 ((rd_T139 l0 x20_2).f1))).setCell ⟨gb232, 2, none⟩ (.string ((rd_T139 l0 x20_2).f2)))) := ⟨zH87⟩
      (try clear BK232)
      (try clear HB)
      generalize (((w43.setCell ⟨gb232, 0, none⟩ (.int .i64 ((rd_T139 l0 x20_2).f0))).setCell ⟨gb232, 1, none⟩ (.int .i64 ((rd_T139 l0 x20_2).f1))).setCell ⟨gb232, 2, none⟩ (.string ((rd_T139 l0 x20_2).f2))) = w45 at n0_ n1_ ⊢
      have BK232 := n0_
      have HB := n1_
      clear n0_ n1_
      obtain ⟨n0_, n1_⟩ := zD2 (zg BK232.out) (zh HB.out)
      clear BK232 HB
      have BK232 := n0_
      have HB := n1_
      clear n0_ n1_
      refine start_ (n := 36) (S := fun w' => w'.cell? ⟨gb232, 0, none⟩ = some (.int .i64 ((rd_T139 l0 x20_2).f0)) ∧ w'.cell? ⟨gb232, 1, none⟩ = some (.int .i64 ((rd_T139 l0 x20_2).f1)) ∧ w'.cell? ⟨gb232, 2, none⟩ = some (.string ((rd_T139 l0 x20_2).f2))) (ds := []) b5A0 zG130 rfl rfl ⟨(zk BK232.out 0).trans rfl, (zk BK232.out 1).trans rfl, (zk BK232.out 2).trans rfl⟩ (fun hHeld => ?_); refine with_tabW impl_ShiftsOK.tab6 impl_ShiftsOK.bits6 (fun HT_ HW_ => ?_)
      generalize w45.drew = w46 at BK232 HB hHeld ⊢
      refine zP 0 25 b5A1 HT_ ?_
      refine zQ 1 26 b5A2 HT_ HW_ hHeld ?_
      refine zP 2 27 b5A3 HT_ ?_
      refine zP 3 28 b5A4 HT_ ?_
      refine zP 4 29 b5A5 HT_ ?_
      refine zP 6 31 b5A31 HT_ ?_
      refine zQ 5 30 b5A6 HT_ HW_ hHeld ?_
      refine zQ 7 32 b5A7 HT_ HW_ hHeld ?_
      refine zP 8 33 b5A8 HT_ ?_
      refine zP 9 34 b5A9 HT_ ?_
      refine zP 10 35 b5A10 HT_ ?_
      refine zP 11 36 b5A11 HT_ ?_
      refine zQ 12 37 b5A12 HT_ HW_ hHeld ?_
      refine zP 13 38 b5A13 HT_ ?_
      refine zP 14 39 b5A14 HT_ ?_
      refine zP 15 40 b5A15 HT_ ?_
      refine zP 16 41 b5A16 HT_ ?_
      refine zQ 17 42 b5A17 HT_ HW_ hHeld ?_
      refine one_ (i := 18) (N := some 43) b5A18 rfl rfl (one_of HT_.out zG130) zG131 (fun K hK => ?_)
      refine goes_ Try.func87 zG130 rfl #[.string ((rd_T139 l0 x20_2).f2)] (by rfl) rfl rfl zG93 ?_
      with_reducible refine (impl_NameOK.calls k2 ((rd_T139 l0 x20_2).f2) false _ A24.out).mono ?_
      rintro e w' ⟨rfl, ⟨nd, rfl⟩⟩
      refine ⟨_, rfl, ?_⟩
      refine hK.out _ _ ⟨(zk BK232.out 0).trans rfl, (zk BK232.out 1).trans rfl, (zk BK232.out 2).trans rfl⟩ (fun hHeld => ?_)
      clear hK K
      refine norm_ (a' := ?_) ?_ ?_
      rotate_left
      ·show Act.put _ (some 43) _ = _
       simp only [Act.put, List.setIfInBounds_toArray, List.set_cons_zero, List.set_cons_succ, i64_w, i32_w]
       rfl
      refine zP 19 44 b5A19 HT_ ?_
      refine zP 20 45 b5A20 HT_ ?_
      refine zP 21 46 b5A21 HT_ ?_
      refine zU 22 47 b5A22 HT_ ?_
      refine zU 23 48 b5A23 HT_ ?_
      refine zU 24 49 b5A24 HT_ ?_
      refine zU 25 50 b5A25 HT_ ?_
      refine zU 26 51 b5A32 HT_ ?_
      refine zU 27 52 b5A33 HT_ ?_
      refine zU 28 53 b5A34 HT_ ?_
      refine zU 29 54 b5A35 HT_ ?_
      refine zU 30 55 b5A36 HT_ ?_
      refine zU 31 56 b5A26 HT_ ?_
      refine zU 32 57 b5A27 HT_ ?_
      refine zU 33 58 b5A28 HT_ ?_
      refine zU 34 59 b5A29 HT_ ?_
      refine zP 35 60 b5A30 HT_ ?_
      refine done_ (done_of HT_.out zG130) ?_
      try go_wp2
      go_ret
      exact zH29
     subst c25
     have H1 : (if x20_2 > 0 then (if 0 ≤ (wrap64 (x20_2 - 1)) then (if (wrap64 (x20_2 - 1)) < (l0.length : Int) then (if ((rd_T139 l0 x20_2).f0) < ((rd_T139 l0 (wrap64 (x20_2 - 1))).f0) then (some false) else (impl_ShiftsOK.l0 k2 l0 l1 l0 (l0.length : Int) (wrap64 (x20_2 + 1)))) else (none)) else (none)) else (impl_ShiftsOK.l0 k2 l0 l1 l0 (l0.length : Int) (wrap64 (x20_2 + 1)))) = some r := by rw [if_pos rfl] at H; exact H
     clear H
     have H := H1
     clear H1
     by_cases c26 : x20_2 > 0
     rotate_left
     ·rw [if_neg c26] at H
      have c26b0 : decide (0 < x20_2) = false := decide_eq_false c26
      clear c26
      have H' := za H
      clear H
      have p231 : 0 ≤ (x20_2 : Int) := zO
      have q231 : x20_2 < (l0.length : Int) := zO
      obtain ⟨ad231, e231, hx231_0, hx231_1, hx231_2⟩ := at_T139 HR0.out x20_2 p231 q231
      cases e231
      replace hx231_0 := (HB.out.cell (zb w _ hx231_0)).trans hx231_0
      replace hx231_1 := (HB.out.cell (zb w _ hx231_1)).trans hx231_1
      replace hx231_2 := (HB.out.cell (zb w _ hx231_2)).trans hx231_2
      replace p231 := eq_true p231
      replace q231 := eq_true q231
      try go_wp2_with (first | ((with_reducible refine gate_dst (N := 6) rfl ?_); (try (refine gate_guard (by rfl) ?_; dsimp only)); refine box_event ?hg (N := 6) ?hd (cs := #[.int .i64 0, .int .i64 0, .string (⟨#[]⟩ : ByteArray)]) (t := 139) ?hr ?_; (case hd => rfl); (case hg => rfl); (case hr => exact zH125); intro gb232 hg w39 hbox hb; have n_ := zA_ (za (zr zG102 hb)) (zA_ (za (hbox)) (zA_ (zN1 w.heap.size hg (zo zG102)) (zN1 w.heap.size hg (zo zG102)))); clear HB; obtain ⟨HB, BK232, GW232, GE232⟩ := n_; clear hb hbox hg; obtain ⟨hcz40_0, hcz40_1, hcz40_2, hfz40_0, hfz40_1, hfz40_2⟩ := zB3 BK232.out))
      have n0_ : Aside0 ((((w39.setCell ⟨gb232, 0, none⟩ (.int .i64 ((rd_T139 l0 x20_2).f0))).setCell ⟨gb232, 1, none⟩ (.int .i64 ((rd_T139 l0 x20_2).f1))).setCell ⟨gb232, 2, none⟩ (.string ((rd_T139 l0 x20_2).f2))).heap[gb232]? = some (.cells #[.int .i64 ((rd_T139 l0 x20_2).f0), .int .i64 ((rd_T139 l0 x20_2).f1), .string ((rd_T139 l0 x20_2).f2)] 139 (0, 0))) := ⟨zH2⟩
      have n1_ : Aside0 (Below w.heap.size w (((w39.setCell ⟨gb232, 0, none⟩ (.int .i64 ((rd_T139 l0 x20_2).f0))).setCell ⟨gb232, 1, none⟩ (.int .i64 ((rd_T139 l0 x20_2).f1))).setCell ⟨gb232, 2, none⟩ (.string ((rd_T139 l0 x20_2).f2)))) := ⟨zH87⟩
      (try clear BK232)
      (try clear HB)
      generalize (((w39.setCell ⟨gb232, 0, none⟩ (.int .i64 ((rd_T139 l0 x20_2).f0))).setCell ⟨gb232, 1, none⟩ (.int .i64 ((rd_T139 l0 x20_2).f1))).setCell ⟨gb232, 2, none⟩ (.string ((rd_T139 l0 x20_2).f2))) = w41 at n0_ n1_ ⊢
      have BK232 := n0_
      have HB := n1_
      clear n0_ n1_
      obtain ⟨n0_, n1_⟩ := zD2 (zg BK232.out) (zh HB.out)
      clear BK232 HB
      have BK232 := n0_
      have HB := n1_
      clear n0_ n1_
      refine start_ (n := 36) (S := fun w' => w'.cell? ⟨gb232, 0, none⟩ = some (.int .i64 ((rd_T139 l0 x20_2).f0)) ∧ w'.cell? ⟨gb232, 1, none⟩ = some (.int .i64 ((rd_T139 l0 x20_2).f1)) ∧ w'.cell? ⟨gb232, 2, none⟩ = some (.string ((rd_T139 l0 x20_2).f2))) (ds := []) b5A0 zG130 rfl rfl ⟨(zk BK232.out 0).trans rfl, (zk BK232.out 1).trans rfl, (zk BK232.out 2).trans rfl⟩ (fun hHeld => ?_); refine with_tabW impl_ShiftsOK.tab6 impl_ShiftsOK.bits6 (fun HT_ HW_ => ?_)
      generalize w41.drew = w42 at BK232 HB hHeld ⊢
      refine zP 0 25 b5A1 HT_ ?_
      refine zQ 1 26 b5A2 HT_ HW_ hHeld ?_
      refine zP 2 27 b5A3 HT_ ?_
      refine zP 3 28 b5A4 HT_ ?_
      refine zP 4 29 b5A5 HT_ ?_
      refine zP 6 31 b5A31 HT_ ?_
      refine zQ 5 30 b5A6 HT_ HW_ hHeld ?_
      refine zQ 7 32 b5A7 HT_ HW_ hHeld ?_
      refine zP 8 33 b5A8 HT_ ?_
      refine zP 9 34 b5A9 HT_ ?_
      refine zP 10 35 b5A10 HT_ ?_
      refine zP 11 36 b5A11 HT_ ?_
      refine zQ 12 37 b5A12 HT_ HW_ hHeld ?_
      refine zP 13 38 b5A13 HT_ ?_
      refine zP 14 39 b5A14 HT_ ?_
      refine zP 15 40 b5A15 HT_ ?_
      refine zP 16 41 b5A16 HT_ ?_
      refine zQ 17 42 b5A17 HT_ HW_ hHeld ?_
      refine one_ (i := 18) (N := some 43) b5A18 rfl rfl (one_of HT_.out zG130) zG131 (fun K hK => ?_)
      refine goes_ Try.func87 zG130 rfl #[.string ((rd_T139 l0 x20_2).f2)] (by rfl) rfl rfl zG93 ?_
      with_reducible refine (impl_NameOK.calls k2 ((rd_T139 l0 x20_2).f2) true _ A24.out).mono ?_
      rintro e w' ⟨rfl, ⟨nd, rfl⟩⟩
      refine ⟨_, rfl, ?_⟩
      refine hK.out _ _ ⟨(zk BK232.out 0).trans rfl, (zk BK232.out 1).trans rfl, (zk BK232.out 2).trans rfl⟩ (fun hHeld => ?_)
      clear hK K
      refine norm_ (a' := ?_) ?_ ?_
      rotate_left
      ·show Act.put _ (some 43) _ = _
       simp only [Act.put, List.setIfInBounds_toArray, List.set_cons_zero, List.set_cons_succ, i64_w, i32_w]
       rfl
      refine zP 19 44 b5A19 HT_ ?_
      refine zP 20 45 b5A20 HT_ ?_
      refine zP 21 46 b5A21 HT_ ?_
      refine zP 22 47 b5A22 HT_ ?_
      refine zP 23 48 b5A23 HT_ ?_
      refine zP 24 49 b5A24 HT_ ?_
      refine zU 25 50 b5A25 HT_ ?_
      refine zU 26 51 b5A32 HT_ ?_
      refine zU 27 52 b5A33 HT_ ?_
      refine zU 28 53 b5A34 HT_ ?_
      refine zU 29 54 b5A35 HT_ ?_
      refine zU 30 55 b5A36 HT_ ?_
      refine zU 31 56 b5A26 HT_ ?_
      refine zU 32 57 b5A27 HT_ ?_
      refine zU 33 58 b5A28 HT_ ?_
      refine zP 34 59 b5A29 HT_ ?_
      refine zP 35 60 b5A30 HT_ ?_
      refine done_ (done_of HT_.out zG130) ?_
      try go_wp2
      go_roundg k2
      case measure => have := HJ2.out; have := HK2.out; omega
      case rel => exact ⟨(wrap64 (x20_2 + 1)), zG129, H', ⟨by have := HJ2.out; have := HK2.out; omega⟩, ⟨zH87⟩⟩
     rw [if_pos c26] at H
     have c26b0 : decide (0 < x20_2) = true := decide_eq_true c26
     clear c26
     obtain ⟨ji27, hji27⟩ : ∃ j_ : Int, (wrap64 (x20_2 - 1)) = j_ := ⟨_, rfl⟩
     replace H : (if 0 ≤ (ji27) then (if (ji27) < (l0.length : Int) then (if ((rd_T139 l0 x20_2).f0) < ((rd_T139 l0 (ji27)).f0) then (some false) else (impl_ShiftsOK.l0 k2 l0 l1 l0 (l0.length : Int) (wrap64 (x20_2 + 1)))) else (none)) else (none)) = some r := by first | (rw [hji27] at H; exact H) | (simp only [hji27] at H ⊢; exact H)
     (try rw [hji27] at A24)
     have hji27w : (IntKind.i64.wrap (x20_2 - 1)) = ji27 := (i64_w _).trans hji27
     by_cases c28 : 0 ≤ (ji27)
     rotate_left
     ·rw [if_neg c28] at H
      exact absurd H (by simp)
     rw [if_pos c28] at H
     have c28b0 := decide_eq_true c28
     clear c28
     by_cases c29 : (ji27) < (l0.length : Int)
     rotate_left
     ·rw [if_neg c29] at H
      exact absurd H (by simp)
     rw [if_pos c29] at H
     have c29b0 := decide_eq_true c29
     clear c29
     by_cases c30 : ((rd_T139 l0 x20_2).f0) < ((rd_T139 l0 (ji27)).f0)
     ·rw [if_pos c30] at H
      have c30b0 := decide_eq_true c30
      clear c30
      obtain rfl := Option.some.inj H
      have p231 : 0 ≤ (x20_2 : Int) := zO
      have q231 : x20_2 < (l0.length : Int) := zO
      obtain ⟨ad231, e231, hx231_0, hx231_1, hx231_2⟩ := at_T139 HR0.out x20_2 p231 q231
      cases e231
      replace hx231_0 := (HB.out.cell (zb w _ hx231_0)).trans hx231_0
      replace hx231_1 := (HB.out.cell (zb w _ hx231_1)).trans hx231_1
      replace hx231_2 := (HB.out.cell (zb w _ hx231_2)).trans hx231_2
      replace p231 := eq_true p231
      replace q231 := eq_true q231
      try go_wp2_with (first | ((with_reducible refine gate_dst (N := 6) rfl ?_); (try (refine gate_guard (by rfl) ?_; dsimp only)); refine box_event ?hg (N := 6) ?hd (cs := #[.int .i64 0, .int .i64 0, .string (⟨#[]⟩ : ByteArray)]) (t := 139) ?hr ?_; (case hd => rfl); (case hg => rfl); (case hr => exact zH125); intro gb232 hg w31 hbox hb; have n_ := zA_ (za (zr zG102 hb)) (zA_ (za (hbox)) (zA_ (zN1 w.heap.size hg (zo zG102)) (zN1 w.heap.size hg (zo zG102)))); clear HB; obtain ⟨HB, BK232, GW232, GE232⟩ := n_; clear hb hbox hg; obtain ⟨hcz32_0, hcz32_1, hcz32_2, hfz32_0, hfz32_1, hfz32_2⟩ := zB3 BK232.out))
      have n0_ : Aside0 ((((w31.setCell ⟨gb232, 0, none⟩ (.int .i64 ((rd_T139 l0 x20_2).f0))).setCell ⟨gb232, 1, none⟩ (.int .i64 ((rd_T139 l0 x20_2).f1))).setCell ⟨gb232, 2, none⟩ (.string ((rd_T139 l0 x20_2).f2))).heap[gb232]? = some (.cells #[.int .i64 ((rd_T139 l0 x20_2).f0), .int .i64 ((rd_T139 l0 x20_2).f1), .string ((rd_T139 l0 x20_2).f2)] 139 (0, 0))) := ⟨zH2⟩
      have n1_ : Aside0 (Below w.heap.size w (((w31.setCell ⟨gb232, 0, none⟩ (.int .i64 ((rd_T139 l0 x20_2).f0))).setCell ⟨gb232, 1, none⟩ (.int .i64 ((rd_T139 l0 x20_2).f1))).setCell ⟨gb232, 2, none⟩ (.string ((rd_T139 l0 x20_2).f2)))) := ⟨zH87⟩
      (try clear BK232)
      (try clear HB)
      generalize (((w31.setCell ⟨gb232, 0, none⟩ (.int .i64 ((rd_T139 l0 x20_2).f0))).setCell ⟨gb232, 1, none⟩ (.int .i64 ((rd_T139 l0 x20_2).f1))).setCell ⟨gb232, 2, none⟩ (.string ((rd_T139 l0 x20_2).f2))) = w33 at n0_ n1_ ⊢
      have BK232 := n0_
      have HB := n1_
      clear n0_ n1_
      obtain ⟨n0_, n1_⟩ := zD2 (zg BK232.out) (zh HB.out)
      clear BK232 HB
      have BK232 := n0_
      have HB := n1_
      clear n0_ n1_
      have p234 : 0 ≤ ((ji27) : Int) := zO
      have q234 : (ji27) < (l0.length : Int) := zO
      obtain ⟨ad234, e234, hx234_0, hx234_1, hx234_2⟩ := at_T139 HR0.out (ji27) p234 q234
      have hw234_2 := hx234_2
      have hw234_1 := hx234_1
      have hw234_0 := hx234_0
      obtain rfl : ad231 = ad234 := (by injection e234)
      replace hx234_0 := (HB.out.cell (zb w _ hx234_0)).trans hx234_0
      replace hx234_1 := (HB.out.cell (zb w _ hx234_1)).trans hx234_1
      replace hx234_2 := (HB.out.cell (zb w _ hx234_2)).trans hx234_2
      replace p234 := eq_true p234
      replace q234 := eq_true q234
      refine start_ (n := 36) (S := fun w' => w'.cell? ⟨gb232, 0, none⟩ = some (.int .i64 ((rd_T139 l0 x20_2).f0)) ∧ w'.cell? ⟨gb232, 1, none⟩ = some (.int .i64 ((rd_T139 l0 x20_2).f1)) ∧ w'.cell? ⟨gb232, 2, none⟩ = some (.string ((rd_T139 l0 x20_2).f2)) ∧ w'.cell? (ad231.add (((ji27)).toNat * 3)) = some (.int .i64 ((rd_T139 l0 (ji27)).f0)) ∧ w'.cell? ⟨(ad231.add (((ji27)).toNat * 3)).block, (ad231.add (((ji27)).toNat * 3)).off + 1, none⟩ = some (.int .i64 ((rd_T139 l0 (ji27)).f1)) ∧ w'.cell? ⟨(ad231.add (((ji27)).toNat * 3)).block, (ad231.add (((ji27)).toNat * 3)).off + 2, none⟩ = some (.string ((rd_T139 l0 (ji27)).f2))) (ds := []) b5A0 zG130 rfl rfl ⟨(zk BK232.out 0).trans rfl, (zk BK232.out 1).trans rfl, (zk BK232.out 2).trans rfl, ((HB.out.cell (zb w _ hw234_0)).trans hw234_0), ((HB.out.cell (zb w _ hw234_1)).trans hw234_1), ((HB.out.cell (zb w _ hw234_2)).trans hw234_2)⟩ (fun hHeld => ?_); refine with_tabW impl_ShiftsOK.tab6 impl_ShiftsOK.bits6 (fun HT_ HW_ => ?_)
      generalize w33.drew = w34 at BK232 HB hx234_0 hx234_1 hx234_2 hHeld ⊢
      refine zP 0 25 b5A1 HT_ ?_
      refine zQ 1 26 b5A2 HT_ HW_ hHeld ?_
      refine zP 2 27 b5A3 HT_ ?_
      refine zP 3 28 b5A4 HT_ ?_
      refine zP 4 29 b5A5 HT_ ?_
      refine zP 6 31 b5A31 HT_ ?_
      refine zQ 5 30 b5A6 HT_ HW_ hHeld ?_
      refine zQ 7 32 b5A7 HT_ HW_ hHeld ?_
      refine zP 8 33 b5A8 HT_ ?_
      refine zP 9 34 b5A9 HT_ ?_
      refine zP 10 35 b5A10 HT_ ?_
      refine zP 11 36 b5A11 HT_ ?_
      refine zQ 12 37 b5A12 HT_ HW_ hHeld ?_
      refine zP 13 38 b5A13 HT_ ?_
      refine zP 14 39 b5A14 HT_ ?_
      refine zP 15 40 b5A15 HT_ ?_
      refine zP 16 41 b5A16 HT_ ?_
      refine zQ 17 42 b5A17 HT_ HW_ hHeld ?_
      refine one_ (i := 18) (N := some 43) b5A18 rfl rfl (one_of HT_.out zG130) zG131 (fun K hK => ?_)
      refine goes_ Try.func87 zG130 rfl #[.string ((rd_T139 l0 x20_2).f2)] (by rfl) rfl rfl zG93 ?_
      with_reducible refine (impl_NameOK.calls k2 ((rd_T139 l0 x20_2).f2) true _ A24.out).mono ?_
      rintro e w' ⟨rfl, ⟨nd, rfl⟩⟩
      refine ⟨_, rfl, ?_⟩
      refine hK.out _ _ ⟨(zk BK232.out 0).trans rfl, (zk BK232.out 1).trans rfl, (zk BK232.out 2).trans rfl, ((HB.out.cell (zb w _ hw234_0)).trans hw234_0), ((HB.out.cell (zb w _ hw234_1)).trans hw234_1), ((HB.out.cell (zb w _ hw234_2)).trans hw234_2)⟩ (fun hHeld => ?_)
      clear hK K
      refine norm_ (a' := ?_) ?_ ?_
      rotate_left
      ·show Act.put _ (some 43) _ = _
       simp only [Act.put, List.setIfInBounds_toArray, List.set_cons_zero, List.set_cons_succ, i64_w, i32_w]
       rfl
      refine zP 19 44 b5A19 HT_ ?_
      refine zP 20 45 b5A20 HT_ ?_
      refine zP 21 46 b5A21 HT_ ?_
      refine zP 22 47 b5A22 HT_ ?_
      refine zP 23 48 b5A23 HT_ ?_
      refine zP 24 49 b5A24 HT_ ?_
      refine zP 25 50 b5A25 HT_ ?_
      refine zP 27 52 b5A37 HT_ ?_
      refine zP 28 53 b5A38 HT_ ?_
      refine zP 29 54 b5A39 HT_ ?_
      refine zP 30 55 b5A40 HT_ ?_
      refine zP 31 56 b5A41 HT_ ?_
      refine zQ 26 51 b5A26 HT_ HW_ hHeld ?_
      refine zQ 32 57 b5A27 HT_ HW_ hHeld ?_
      refine zP 33 58 b5A28 HT_ ?_
      refine zP 34 59 b5A29 HT_ ?_
      refine zP 35 60 b5A30 HT_ ?_
      refine done_ (done_of HT_.out zG130) ?_
      try go_wp2
      go_ret
      exact ⟨by first | rfl | (simp [errW_none, errW_some] <;> rfl) | (simp only [← hji27]; first | rfl | (simp [errW_none, errW_some] <;> rfl)) | (simp [*, errW_none, errW_some] <;> rfl), zH87⟩
     rw [if_neg c30] at H
     have c30b0 := decide_eq_false c30
     clear c30
     have H' := za H
     clear H
     have p231 : 0 ≤ (x20_2 : Int) := zO
     have q231 : x20_2 < (l0.length : Int) := zO
     obtain ⟨ad231, e231, hx231_0, hx231_1, hx231_2⟩ := at_T139 HR0.out x20_2 p231 q231
     cases e231
     replace hx231_0 := (HB.out.cell (zb w _ hx231_0)).trans hx231_0
     replace hx231_1 := (HB.out.cell (zb w _ hx231_1)).trans hx231_1
     replace hx231_2 := (HB.out.cell (zb w _ hx231_2)).trans hx231_2
     replace p231 := eq_true p231
     replace q231 := eq_true q231
     try go_wp2_with (first | ((with_reducible refine gate_dst (N := 6) rfl ?_); (try (refine gate_guard (by rfl) ?_; dsimp only)); refine box_event ?hg (N := 6) ?hd (cs := #[.int .i64 0, .int .i64 0, .string (⟨#[]⟩ : ByteArray)]) (t := 139) ?hr ?_; (case hd => rfl); (case hg => rfl); (case hr => exact zH125); intro gb232 hg w35 hbox hb; have n_ := zA_ (za (zr zG102 hb)) (zA_ (za (hbox)) (zA_ (zN1 w.heap.size hg (zo zG102)) (zN1 w.heap.size hg (zo zG102)))); clear HB; obtain ⟨HB, BK232, GW232, GE232⟩ := n_; clear hb hbox hg; obtain ⟨hcz36_0, hcz36_1, hcz36_2, hfz36_0, hfz36_1, hfz36_2⟩ := zB3 BK232.out))
     have n0_ : Aside0 ((((w35.setCell ⟨gb232, 0, none⟩ (.int .i64 ((rd_T139 l0 x20_2).f0))).setCell ⟨gb232, 1, none⟩ (.int .i64 ((rd_T139 l0 x20_2).f1))).setCell ⟨gb232, 2, none⟩ (.string ((rd_T139 l0 x20_2).f2))).heap[gb232]? = some (.cells #[.int .i64 ((rd_T139 l0 x20_2).f0), .int .i64 ((rd_T139 l0 x20_2).f1), .string ((rd_T139 l0 x20_2).f2)] 139 (0, 0))) := ⟨zH2⟩
     have n1_ : Aside0 (Below w.heap.size w (((w35.setCell ⟨gb232, 0, none⟩ (.int .i64 ((rd_T139 l0 x20_2).f0))).setCell ⟨gb232, 1, none⟩ (.int .i64 ((rd_T139 l0 x20_2).f1))).setCell ⟨gb232, 2, none⟩ (.string ((rd_T139 l0 x20_2).f2)))) := ⟨zH87⟩
     (try clear BK232)
     (try clear HB)
     generalize (((w35.setCell ⟨gb232, 0, none⟩ (.int .i64 ((rd_T139 l0 x20_2).f0))).setCell ⟨gb232, 1, none⟩ (.int .i64 ((rd_T139 l0 x20_2).f1))).setCell ⟨gb232, 2, none⟩ (.string ((rd_T139 l0 x20_2).f2))) = w37 at n0_ n1_ ⊢
     have BK232 := n0_
     have HB := n1_
     clear n0_ n1_
     obtain ⟨n0_, n1_⟩ := zD2 (zg BK232.out) (zh HB.out)
     clear BK232 HB
     have BK232 := n0_
     have HB := n1_
     clear n0_ n1_
     have p234 : 0 ≤ ((ji27) : Int) := zO
     have q234 : (ji27) < (l0.length : Int) := zO
     obtain ⟨ad234, e234, hx234_0, hx234_1, hx234_2⟩ := at_T139 HR0.out (ji27) p234 q234
     have hw234_2 := hx234_2
     have hw234_1 := hx234_1
     have hw234_0 := hx234_0
     obtain rfl : ad231 = ad234 := (by injection e234)
     replace hx234_0 := (HB.out.cell (zb w _ hx234_0)).trans hx234_0
     replace hx234_1 := (HB.out.cell (zb w _ hx234_1)).trans hx234_1
     replace hx234_2 := (HB.out.cell (zb w _ hx234_2)).trans hx234_2
     replace p234 := eq_true p234
     replace q234 := eq_true q234
     refine start_ (n := 36) (S := fun w' => w'.cell? ⟨gb232, 0, none⟩ = some (.int .i64 ((rd_T139 l0 x20_2).f0)) ∧ w'.cell? ⟨gb232, 1, none⟩ = some (.int .i64 ((rd_T139 l0 x20_2).f1)) ∧ w'.cell? ⟨gb232, 2, none⟩ = some (.string ((rd_T139 l0 x20_2).f2)) ∧ w'.cell? (ad231.add (((ji27)).toNat * 3)) = some (.int .i64 ((rd_T139 l0 (ji27)).f0)) ∧ w'.cell? ⟨(ad231.add (((ji27)).toNat * 3)).block, (ad231.add (((ji27)).toNat * 3)).off + 1, none⟩ = some (.int .i64 ((rd_T139 l0 (ji27)).f1)) ∧ w'.cell? ⟨(ad231.add (((ji27)).toNat * 3)).block, (ad231.add (((ji27)).toNat * 3)).off + 2, none⟩ = some (.string ((rd_T139 l0 (ji27)).f2))) (ds := []) b5A0 zG130 rfl rfl ⟨(zk BK232.out 0).trans rfl, (zk BK232.out 1).trans rfl, (zk BK232.out 2).trans rfl, ((HB.out.cell (zb w _ hw234_0)).trans hw234_0), ((HB.out.cell (zb w _ hw234_1)).trans hw234_1), ((HB.out.cell (zb w _ hw234_2)).trans hw234_2)⟩ (fun hHeld => ?_); refine with_tabW impl_ShiftsOK.tab6 impl_ShiftsOK.bits6 (fun HT_ HW_ => ?_)
     generalize w37.drew = w38 at BK232 HB hx234_0 hx234_1 hx234_2 hHeld ⊢
     refine zP 0 25 b5A1 HT_ ?_
     refine zQ 1 26 b5A2 HT_ HW_ hHeld ?_
     refine zP 2 27 b5A3 HT_ ?_
     refine zP 3 28 b5A4 HT_ ?_
     refine zP 4 29 b5A5 HT_ ?_
     refine zP 6 31 b5A31 HT_ ?_
     refine zQ 5 30 b5A6 HT_ HW_ hHeld ?_
     refine zQ 7 32 b5A7 HT_ HW_ hHeld ?_
     refine zP 8 33 b5A8 HT_ ?_
     refine zP 9 34 b5A9 HT_ ?_
     refine zP 10 35 b5A10 HT_ ?_
     refine zP 11 36 b5A11 HT_ ?_
     refine zQ 12 37 b5A12 HT_ HW_ hHeld ?_
     refine zP 13 38 b5A13 HT_ ?_
     refine zP 14 39 b5A14 HT_ ?_
     refine zP 15 40 b5A15 HT_ ?_
     refine zP 16 41 b5A16 HT_ ?_
     refine zQ 17 42 b5A17 HT_ HW_ hHeld ?_
     refine one_ (i := 18) (N := some 43) b5A18 rfl rfl (one_of HT_.out zG130) zG131 (fun K hK => ?_)
     refine goes_ Try.func87 zG130 rfl #[.string ((rd_T139 l0 x20_2).f2)] (by rfl) rfl rfl zG93 ?_
     with_reducible refine (impl_NameOK.calls k2 ((rd_T139 l0 x20_2).f2) true _ A24.out).mono ?_
     rintro e w' ⟨rfl, ⟨nd, rfl⟩⟩
     refine ⟨_, rfl, ?_⟩
     refine hK.out _ _ ⟨(zk BK232.out 0).trans rfl, (zk BK232.out 1).trans rfl, (zk BK232.out 2).trans rfl, ((HB.out.cell (zb w _ hw234_0)).trans hw234_0), ((HB.out.cell (zb w _ hw234_1)).trans hw234_1), ((HB.out.cell (zb w _ hw234_2)).trans hw234_2)⟩ (fun hHeld => ?_)
     clear hK K
     refine norm_ (a' := ?_) ?_ ?_
     rotate_left
     ·show Act.put _ (some 43) _ = _
      simp only [Act.put, List.setIfInBounds_toArray, List.set_cons_zero, List.set_cons_succ, i64_w, i32_w]
      rfl
     refine zP 19 44 b5A19 HT_ ?_
     refine zP 20 45 b5A20 HT_ ?_
     refine zP 21 46 b5A21 HT_ ?_
     refine zP 22 47 b5A22 HT_ ?_
     refine zP 23 48 b5A23 HT_ ?_
     refine zP 24 49 b5A24 HT_ ?_
     refine zP 25 50 b5A25 HT_ ?_
     refine zP 27 52 b5A37 HT_ ?_
     refine zP 28 53 b5A38 HT_ ?_
     refine zP 29 54 b5A39 HT_ ?_
     refine zP 30 55 b5A40 HT_ ?_
     refine zP 31 56 b5A41 HT_ ?_
     refine zQ 26 51 b5A26 HT_ HW_ hHeld ?_
     refine zQ 32 57 b5A27 HT_ HW_ hHeld ?_
     refine zP 33 58 b5A28 HT_ ?_
     refine zP 34 59 b5A29 HT_ ?_
     refine zP 35 60 b5A30 HT_ ?_
     refine done_ (done_of HT_.out zG130) ?_
     try go_wp2
     go_roundg k2
     case measure => have := HJ2.out; have := HK2.out; omega
     case rel => exact ⟨(wrap64 (x20_2 + 1)), zG129, H', ⟨by have := HJ2.out; have := HK2.out; omega⟩, ⟨zH87⟩⟩
end Go.Proofs.Ytojncbpeeboooaa.Y
