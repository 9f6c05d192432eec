-- squeezed
-- made by pp.py (wip/tools) out of the translation; Lean checks it
import Derived.Test.YtojncbpeeboooaaV0
import Derived.Test.YtojncbpeeboooaaV1
namespace Go.Proofs.Ytojncbpeeboooaa.V
open Go.RowKit Go.Proofs.YtojncbpeeboooaaW.PrintWords Go.Proofs.YtojncbpeeboooaaW.PrintLast Go.Proofs.YtojncbpeeboooaaW.PrintMore
attribute [local go_sem] max2_int min2_int max_two min_two max_three min_three max_four min_four   -- for this text's walks alone
set_option linter.unusedVariables false
set_option linter.unusedSimpArgs false


/-! ### impl_NameOK: function 87 -/
mutual
def impl_NameOK.l0 : Nat → ByteArray → Int → Option (Bool)
 | 0, _, _ => none
 | k + 1, x0, x3 => if x3 < (x0.size : Int) then (if 0 ≤ x3 then ((impl_isLetter.f (bt x0 x3)).bind fun t109 => (if t109 = true then (impl_NameOK.j1 k x0 x3 true) else (if x3 > 0 then ((impl_isDigit.f (bt x0 x3)).bind fun t110 => (impl_NameOK.j1 k x0 x3 t110)) else (impl_NameOK.j1 k x0 x3 false)))) else (none)) else (some true)
def impl_NameOK.j1 : Nat → ByteArray → Int → Bool → Option (Bool)
 | 0, _, _, _ => none
 | k + 1, x0, x3, x14 => if x14 = true then (impl_NameOK.l0 k x0 (wrap64 (x3 + 1))) else (if (wrap64 (x3 + 1)) < (x0.size : Int) then (if 0 ≤ x3 then (if x3 ≤ (wrap64 (x3 + 2)) then (if (wrap64 (x3 + 2)) ≤ (x0.size : Int) then ((impl_isWideLetter.f k (x0.extract (x3 : Int).toNat ((wrap64 (x3 + 2)) : Int).toNat)).bind fun t111 => (if t111 = true then (impl_NameOK.l0 k x0 (wrap64 ((wrap64 (x3 + 1)) + 1))) else (some false))) else (none)) else (none)) else (none)) else (some false))
end
def impl_NameOK.f (k : Nat) (a0 : ByteArray) : Option (Bool) := (impl_within.f (a0.size : Int) 1 40).bind fun t108 => (if t108 = true then (impl_NameOK.l0 k a0 0) else (some false))
theorem impl_NameOK.mono_l : ∀ k, (∀ y0 y1, LeO (impl_NameOK.l0 k y0 y1) (impl_NameOK.l0 (k + 1) y0 y1)) ∧ (∀ y0 y1 y2, LeO (impl_NameOK.j1 k y0 y1 y2) (impl_NameOK.j1 (k + 1) y0 y1 y2))
 | 0 => ⟨fun _ _ r h => by simp [impl_NameOK.l0] at h, fun _ _ _ r h => by simp [impl_NameOK.j1] at h⟩
 | k + 1 => by
  obtain ⟨ih0, ih1⟩ := impl_NameOK.mono_l k
  refine ⟨?_, ?_⟩
  ·intro y0 y1
   unfold impl_NameOK.l0
   repeat' first
   | (with_reducible exact ih0 _ _)
   | (with_reducible exact ih1 _ _ _)
   | (with_reducible exact impl_isWideLetter.mono _ _)
   | (with_reducible exact LeO.refl _)
   | (with_reducible exact LeO.none _)
   | (with_reducible refine LeO.ite ?_ ?_)
   | (with_reducible refine LeO.bind ?_ (fun _ => ?_))
   | exact ih0 _ _
   | exact ih1 _ _ _
   | exact impl_isWideLetter.mono _ _
   | exact LeO.none _
   | refine LeO.ite ?_ ?_
   | refine LeO.bind ?_ (fun _ => ?_)
  ·intro y0 y1 y2
   unfold impl_NameOK.j1
   repeat' first
   | (with_reducible exact ih0 _ _)
   | (with_reducible exact ih1 _ _ _)
   | (with_reducible exact impl_isWideLetter.mono _ _)
   | (with_reducible exact LeO.refl _)
   | (with_reducible exact LeO.none _)
   | (with_reducible refine LeO.ite ?_ ?_)
   | (with_reducible refine LeO.bind ?_ (fun _ => ?_))
   | exact ih0 _ _
   | exact ih1 _ _ _
   | exact impl_isWideLetter.mono _ _
   | exact LeO.none _
   | refine LeO.ite ?_ ?_
   | refine LeO.bind ?_ (fun _ => ?_)
theorem impl_NameOK.mono : ∀ a0 k, LeO (impl_NameOK.f k a0) (impl_NameOK.f (k + 1) a0) := by
 intro a0 k
 obtain ⟨ih0, ih1⟩ := impl_NameOK.mono_l k
 unfold impl_NameOK.f
 repeat' first
   | (with_reducible exact ih0 _ _)
   | (with_reducible exact ih1 _ _ _)
   | (with_reducible exact impl_isWideLetter.mono _ _)
   | (with_reducible exact LeO.refl _)
   | (with_reducible exact LeO.none _)
   | (with_reducible refine LeO.ite ?_ ?_)
   | (with_reducible refine LeO.bind ?_ (fun _ => ?_))
   | exact ih0 _ _
   | exact ih1 _ _ _
   | exact impl_isWideLetter.mono _ _
   | exact LeO.none _
   | refine LeO.ite ?_ ?_
   | refine LeO.bind ?_ (fun _ => ?_)
set_option maxHeartbeats 64000000 in
set_option maxRecDepth 100000 in
theorem impl_NameOK.calls (k : Nat) (a0 : ByteArray) (r : Bool) (w : World) (h : impl_NameOK.f k a0 = some r) :
  Calls Try.prog 87 #[.string a0] w fun e w' => e = .returned (.bool r) ∧ Drawn0 w w' := by
 have H : ((impl_within.f (a0.size : Int) 1 40).bind fun t108 => (if t108 = true then (impl_NameOK.l0 k a0 0) else (some false))) = some r := h
 clear h
 replace H := Option.bind_eq_some_iff.mp H
 obtain ⟨t108, A20, H⟩ := H
 replace H : (if t108 = true then (impl_NameOK.l0 k a0 0) else (some false)) = some r := H
 have A2 := za A20
 clear A20
 by_cases c3 : t108 = true
 rotate_left
 ·replace c3 := Bool.eq_false_iff.mpr c3
  subst c3
  have H1 : (some false) = some r := by rw [if_neg (show ¬ (false = true) by decide)] at H; exact H
  clear H
  have H := H1
  clear H1
  obtain rfl := Option.some.inj H
  go_enter Try.func87, Try.ntmps87
  go_wp2_with (first | ((with_reducible refine gate_callee (f := 88) rfl ?_); refine goesL_ (some 6) rfl rfl Try.func88 zG106 rfl #[.int .i64 (a0.size : Int), .int .i64 1, .int .i64 40] rfl zG80 ?_; (with_reducible refine (impl_within.calls (a0.size : Int) 1 40 false _ A2.out).mono ?_); rintro e w' ⟨rfl, ⟨nd, rfl⟩⟩; refine ⟨_, rfl, ?_⟩))
  go_ret
  exact zH91

 subst c3
 have H1 : (impl_NameOK.l0 k a0 0) = some r := by rw [if_pos rfl] at H; exact H
 clear H
 have H := H1
 clear H1
 have H' := za H
 clear H
 go_enter Try.func87, Try.ntmps87
 go_wp2_with (first | ((with_reducible refine gate_callee (f := 88) rfl ?_); refine goesL_ (some 6) rfl rfl Try.func88 zG106 rfl #[.int .i64 (a0.size : Int), .int .i64 1, .int .i64 40] rfl zG80 ?_; (with_reducible refine (impl_within.calls (a0.size : Int) 1 40 true _ A2.out).mono ?_); rintro e w' ⟨rfl, ⟨nd, rfl⟩⟩; refine ⟨_, rfl, ?_⟩))
 go_loopg [3] k (fun kq v3 w' => ∃ (x3_1 : Int), v3 = .int .i64 x3_1 ∧ Aside0 (impl_NameOK.l0 kq a0 x3_1 = some r) ∧ Aside0 (kq ≤ k) ∧ Drawn0 w w')
 case atStart => exact ⟨(0), zG105, H', ⟨Nat.le_refl _⟩, zH120⟩
 case round =>
  clear H'
  try clear c3
  obtain ⟨x3_1, rfl, HA, HK1, ⟨m1, rfl⟩⟩ := hrel
  cases gk with
  | zero => exact absurd HA.out (by simp [impl_NameOK.l0])
  | succ k1 =>
   have H := HA.out
   clear HA
   simp only [impl_NameOK.l0] at H
   by_cases c4 : x3_1 < (a0.size : Int)
   rotate_left
   ·rw [if_neg c4] at H
    have c4b0 := decide_eq_false c4
    clear c4
    obtain rfl := Option.some.inj H
    go_wp2
    go_ret
    exact zH91
   rw [if_pos c4] at H
   have c4b0 := decide_eq_true c4
   clear c4
   have HC5 := za H
   clear H
   go_upto_region 7 with (fail)
   go_cut [14] (fun v14 wc => ∃ (kq : Nat) (x14_4 : Bool), v14 = .bool x14_4 ∧ Aside0 (impl_NameOK.j1 kq a0 x3_1 x14_4 = some r) ∧ Aside0 (kq ≤ k1) ∧ Drawn0 w wc)
   case first =>
    have H := HC5.out
    clear HC5
    by_cases c6 : 0 ≤ x3_1
    rotate_left
    ·rw [if_neg c6] at H
     exact absurd H (by simp)
    rw [if_pos c6] at H
    have c6b0 := decide_eq_true c6
    clear c6
    (first | rw [c6b0] | (simp only [i64_w, i32_w]; rw [c6b0]) | skip)
    replace H := Option.bind_eq_some_iff.mp H
    obtain ⟨t109, A80, H⟩ := H
    replace H : (if t109 = true then (impl_NameOK.j1 k1 a0 x3_1 true) else (if x3_1 > 0 then ((impl_isDigit.f (bt a0 x3_1)).bind fun t110 => (impl_NameOK.j1 k1 a0 x3_1 t110)) else (impl_NameOK.j1 k1 a0 x3_1 false))) = some r := H
    have A8 := za A80
    clear A80
    by_cases c9 : t109 = true
    ·subst c9
     have H1 : (impl_NameOK.j1 k1 a0 x3_1 true) = some r := by rw [if_pos rfl] at H; exact H
     clear H
     have H := H1
     clear H1
     have H' := za H
     clear H
     have p7 : 0 ≤ (x3_1 : Int) := zO
     have q7 : x3_1 < (a0.size : Int) := zO
     have hx7 := bt_at a0 x3_1
     replace p7 := eq_true p7
     replace q7 := eq_true q7
     go_wp2_with (first | ((with_reducible refine gate_callee (f := 129) rfl ?_); refine goesL_ (some 18) rfl rfl Try.func129 zG106 rfl #[.int .u8 (bt a0 x3_1)] rfl zG80 ?_; (with_reducible refine (impl_isLetter.calls (bt a0 x3_1) true _ A8.out).mono ?_); rintro e w' ⟨rfl, ⟨nd, rfl⟩⟩; refine ⟨_, rfl, ?_⟩))
     go_meet
     case rel => exact ⟨_, (true), zG105, H', ⟨zH122⟩, zH120⟩
    replace c9 := Bool.eq_false_iff.mpr c9
    subst c9
    have H1 : (if x3_1 > 0 then ((impl_isDigit.f (bt a0 x3_1)).bind fun t110 => (impl_NameOK.j1 k1 a0 x3_1 t110)) else (impl_NameOK.j1 k1 a0 x3_1 false)) = some r := by rw [if_neg (show ¬ (false = true) by decide)] at H; exact H
    clear H
    have H := H1
    clear H1
    by_cases c10 : x3_1 > 0
    rotate_left
    ·rw [if_neg c10] at H
     have c10b0 : decide (0 < x3_1) = false := decide_eq_false c10
     clear c10
     have H' := za H
     clear H
     have p7 : 0 ≤ (x3_1 : Int) := zO
     have q7 : x3_1 < (a0.size : Int) := zO
     have hx7 := bt_at a0 x3_1
     replace p7 := eq_true p7
     replace q7 := eq_true q7
     go_wp2_with (first | ((with_reducible refine gate_callee (f := 129) rfl ?_); refine goesL_ (some 18) rfl rfl Try.func129 zG106 rfl #[.int .u8 (bt a0 x3_1)] rfl zG80 ?_; (with_reducible refine (impl_isLetter.calls (bt a0 x3_1) false _ A8.out).mono ?_); rintro e w' ⟨rfl, ⟨nd, rfl⟩⟩; refine ⟨_, rfl, ?_⟩))
     go_meet
     case rel => exact ⟨_, (false), zG105, H', ⟨zH122⟩, zH120⟩
    rw [if_pos c10] at H
    have c10b0 : decide (0 < x3_1) = true := decide_eq_true c10
    clear c10
    replace H := Option.bind_eq_some_iff.mp H
    obtain ⟨t110, A120, H⟩ := H
    replace H : (impl_NameOK.j1 k1 a0 x3_1 t110) = some r := H
    have A12 := za A120
    clear A120
    have H' := za H
    clear H
    have p7 : 0 ≤ (x3_1 : Int) := zO
    have q7 : x3_1 < (a0.size : Int) := zO
    have hx7 := bt_at a0 x3_1
    replace p7 := eq_true p7
    replace q7 := eq_true q7
    go_wp2_with (first | ((with_reducible refine gate_callee (f := 129) rfl ?_); refine goesL_ (some 18) rfl rfl Try.func129 zG106 rfl #[.int .u8 (bt a0 x3_1)] rfl zG80 ?_; (with_reducible refine (impl_isLetter.calls (bt a0 x3_1) false _ A8.out).mono ?_); rintro e w' ⟨rfl, ⟨nd, rfl⟩⟩; refine ⟨_, rfl, ?_⟩; have p11 : 0 ≤ (x3_1 : Int) := zO; have q11 : x3_1 < (a0.size : Int) := zO; have hx11 := bt_at a0 x3_1; replace p11 := eq_true p11; replace q11 := eq_true q11) | (go_at_call 130; (with_reducible refine (impl_isDigit.calls (bt a0 x3_1) t110 _ A12.out).mono ?_); rintro e w' ⟨rfl, ⟨nd, rfl⟩⟩))
    go_meet
    case rel => exact ⟨_, (t110), zG105, H', ⟨zH122⟩, zH120⟩
   case rest =>
    clear HC5
    try clear c3
    try clear c4
    try clear c4b0
    try clear c6
    try clear c6b0
    try clear p7
    try clear q7
    try clear hx7
    try clear c9
    try clear c10
    try clear c10b0
    try clear p11
    try clear q11
    try clear hx11
    try clear p11
    try clear p7
    try clear q11
    try clear q7
    obtain ⟨kq, x14_4, rfl, HA, HJ4, ⟨mc4, rfl⟩⟩ := hcut
    cases kq with
    | zero => exact absurd HA.out (by simp [impl_NameOK.j1])
    | succ kj4 =>
     have H := HA.out
     clear HA
     simp only [impl_NameOK.j1] at H
     by_cases c13 : x14_4 = true
     ·subst c13
      have H1 : (impl_NameOK.l0 kj4 a0 (wrap64 (x3_1 + 1))) = some r := by rw [if_pos rfl] at H; exact H
      clear H
      have H := H1
      clear H1
      have H' := za H
      clear H
      go_wp2
      go_roundg kj4
      case measure => have := HK1.out; have := HJ4.out; omega
      case rel => exact ⟨(wrap64 (x3_1 + 1)), zG105, H', ⟨zH123⟩, zH120⟩
     replace c13 := Bool.eq_false_iff.mpr c13
     subst c13
     have H1 : (if (wrap64 (x3_1 + 1)) < (a0.size : Int) then (if 0 ≤ x3_1 then (if x3_1 ≤ (wrap64 (x3_1 + 2)) then (if (wrap64 (x3_1 + 2)) ≤ (a0.size : Int) then ((impl_isWideLetter.f kj4 (a0.extract (x3_1 : Int).toNat ((wrap64 (x3_1 + 2)) : Int).toNat)).bind fun t111 => (if t111 = true then (impl_NameOK.l0 kj4 a0 (wrap64 ((wrap64 (x3_1 + 1)) + 1))) else (some false))) else (none)) else (none)) else (none)) else (some false)) = some r := by rw [if_neg (show ¬ (false = true) by decide)] at H; exact H
     clear H
     have H := H1
     clear H1
     by_cases c14 : (wrap64 (x3_1 + 1)) < (a0.size : Int)
     rotate_left
     ·rw [if_neg c14] at H
      have c14b0 := decide_eq_false c14
      clear c14
      obtain rfl := Option.some.inj H
      go_wp2
      go_ret
      exact zH91
     rw [if_pos c14] at H
     have c14b0 := decide_eq_true c14
     clear c14
     by_cases c15 : 0 ≤ x3_1
     rotate_left
     ·rw [if_neg c15] at H
      exact absurd H (by simp)
     rw [if_pos c15] at H
     have c15b0 := eq_true c15
     have c15b1 := decide_eq_true c15
     clear c15
     by_cases c16 : x3_1 ≤ (wrap64 (x3_1 + 2))
     rotate_left
     ·rw [if_neg c16] at H
      exact absurd H (by simp)
     rw [if_pos c16] at H
     have c16b0 := eq_true c16
     have c16b1 := decide_eq_true c16
     by_cases c17 : (wrap64 (x3_1 + 2)) ≤ (a0.size : Int)
     rotate_left
     ·rw [if_neg c17] at H
      exact absurd H (by simp)
     rw [if_pos c17] at H
     have c17b0 := eq_true c17
     have c17b1 := decide_eq_true c17
     replace H := Option.bind_eq_some_iff.mp H
     obtain ⟨t111, A180, H⟩ := H
     replace H : (if t111 = true then (impl_NameOK.l0 kj4 a0 (wrap64 ((wrap64 (x3_1 + 1)) + 1))) else (some false)) = some r := H
     have A18 := za A180
     clear A180
     by_cases c19 : t111 = true
     rotate_left
     ·replace c19 := Bool.eq_false_iff.mpr c19
      subst c19
      have H1 : (some false) = some r := by rw [if_neg (show ¬ (false = true) by decide)] at H; exact H
      clear H
      have H := H1
      clear H1
      obtain rfl := Option.some.inj H
      go_wp2_with (first | (go_at_call 131; (with_reducible refine (impl_isWideLetter.calls kj4 (a0.extract (x3_1 : Int).toNat ((wrap64 (x3_1 + 2)) : Int).toNat) false _ A18.out).mono ?_); rintro e w' ⟨rfl, ⟨nd, rfl⟩⟩))
      go_ret
      exact zH91
     subst c19
     have H1 : (impl_NameOK.l0 kj4 a0 (wrap64 ((wrap64 (x3_1 + 1)) + 1))) = some r := by rw [if_pos rfl] at H; exact H
     clear H
     have H := H1
     clear H1
     have H' := za H
     clear H
     go_wp2_with (first | (go_at_call 131; (with_reducible refine (impl_isWideLetter.calls kj4 (a0.extract (x3_1 : Int).toNat ((wrap64 (x3_1 + 2)) : Int).toNat) true _ A18.out).mono ?_); rintro e w' ⟨rfl, ⟨nd, rfl⟩⟩))
     go_roundg kj4
     case measure => have := HK1.out; have := HJ4.out; omega
     case rel => exact ⟨(wrap64 ((wrap64 (x3_1 + 1)) + 1)), zG105, H', ⟨zH123⟩, zH120⟩
/-! ### slices_Index_string_string: function 148 -/
def slices_Index_string_string.l0 : Nat → List ByteArray → ByteArray → Int → Int → Option (Int)
 | 0, _, _, _, _ => none
 | k + 1, x0, x1, x7, x8 => if x8 < x7 then (if 0 ≤ x8 then (if x8 < (x0.length : Int) then (if x1.toList = (rdOf ByteArray.empty x0 x8).toList then (some x8) else (slices_Index_string_string.l0 k x0 x1 x7 (wrap64 (x8 + 1)))) else (none)) else (none)) else (some (-1))
def slices_Index_string_string.f (k : Nat) (l0 : List ByteArray) (a1 : ByteArray) : Option (Int) := slices_Index_string_string.l0 k l0 a1 (l0.length : Int) 0
theorem slices_Index_string_string.mono_l : ∀ k, (∀ y0 y1 y2 y3, LeO (slices_Index_string_string.l0 k y0 y1 y2 y3) (slices_Index_string_string.l0 (k + 1) y0 y1 y2 y3))
 | 0 => fun _ _ _ _ r h => by simp [slices_Index_string_string.l0] at h
 | k + 1 => by
  have ih0 := slices_Index_string_string.mono_l k
  ·intro y0 y1 y2 y3
   unfold slices_Index_string_string.l0
   repeat' first
   | (with_reducible exact ih0 _ _ _ _)
   | (with_reducible exact LeO.refl _)
   | (with_reducible exact LeO.none _)
   | (with_reducible refine LeO.ite ?_ ?_)
   | (with_reducible refine LeO.bind ?_ (fun _ => ?_))
   | exact ih0 _ _ _ _
   | exact LeO.none _
   | refine LeO.ite ?_ ?_
   | refine LeO.bind ?_ (fun _ => ?_)
theorem slices_Index_string_string.mono : ∀ a0 a1 k, LeO (slices_Index_string_string.f k a0 a1) (slices_Index_string_string.f (k + 1) a0 a1) := by
 intro a0 a1 k
 have ih0 := slices_Index_string_string.mono_l k
 unfold slices_Index_string_string.f
 repeat' first
   | (with_reducible exact ih0 _ _ _ _)
   | (with_reducible exact LeO.refl _)
   | (with_reducible exact LeO.none _)
   | (with_reducible refine LeO.ite ?_ ?_)
   | (with_reducible refine LeO.bind ?_ (fun _ => ?_))
   | exact ih0 _ _ _ _
   | exact LeO.none _
   | refine LeO.ite ?_ ?_
   | refine LeO.bind ?_ (fun _ => ?_)
set_option maxHeartbeats 64000000 in
set_option maxRecDepth 100000 in
theorem slices_Index_string_string.calls (k : Nat) (A0 : Option Addr) (c0 : Nat) (l0 : List ByteArray) (a1 : ByteArray) (r : Int) (w : World) (hr0 : Kd.C Kd.string w A0 l0.length l0) (hc0 : l0.length ≤ c0) (h : slices_Index_string_string.f k l0 a1 = some r) :
  Calls Try.prog 148 #[.slice A0 l0.length c0, .string a1] w fun e w' => e = .returned (.int .i64 r) ∧ Drawn0 w w' := by
 obtain ⟨HR0, HC0⟩ := zD2 hr0 hc0
 clear hr0 hc0
 have H : (slices_Index_string_string.l0 k l0 a1 (l0.length : Int) 0) = some r := h
 clear h
 have H' := za H
 clear H
 go_enter Try.func148, Try.ntmps148
 go_wp2
 go_loopg [8] k (fun kq v8 w' => ∃ (x8_1 : Int), v8 = .int .i64 x8_1 ∧ Aside0 (slices_Index_string_string.l0 kq l0 a1 (l0.length : Int) x8_1 = some r) ∧ Aside0 (kq ≤ k) ∧ Drawn0 w w')
 case atStart => exact ⟨(0), zG105, H', ⟨Nat.le_refl _⟩, zH120⟩
 case round =>
  clear H'
  obtain ⟨x8_1, rfl, HA, HK1, ⟨m1, rfl⟩⟩ := hrel
  cases gk with
  | zero => exact absurd HA.out (by simp [slices_Index_string_string.l0])
  | succ k1 =>
   have H := HA.out
   clear HA
   simp only [slices_Index_string_string.l0] at H
   by_cases c3 : x8_1 < (l0.length : Int)
   rotate_left
   ·rw [if_neg c3] at H
    have c3b0 := decide_eq_false c3
    clear c3
    obtain rfl := Option.some.inj H
    go_wp2
    go_ret
    exact zH91

   rw [if_pos c3] at H
   have c3b0 := decide_eq_true c3
   clear c3
   by_cases c4 : 0 ≤ x8_1
   rotate_left
   ·rw [if_neg c4] at H
    exact absurd H (by simp)
   rw [if_pos c4] at H
   have c4b0 := decide_eq_true c4
   clear c4
   by_cases c5 : x8_1 < (l0.length : Int)
   rotate_left
   ·rw [if_neg c5] at H
    exact absurd H (by simp)
   rw [if_pos c5] at H
   have c5b0 := decide_eq_true c5
   clear c5
   by_cases c6 : a1.toList = (rdOf ByteArray.empty l0 x8_1).toList
   ·rw [if_pos c6] at H
    have c6b0 : (a1.toList == (rdOf ByteArray.empty l0 x8_1).toList) = true := beq_iff_eq.mpr c6
    have c6b1 : (a1.toList != (rdOf ByteArray.empty l0 x8_1).toList) = false := bne_eq_false_iff_eq.mpr c6
    clear c6
    obtain rfl := Option.some.inj H
    have p112 : 0 ≤ (x8_1 : Int) := zO
    have q112 : x8_1 < (l0.length : Int) := zO
    obtain ⟨ad112, e112, hx112_0⟩ := zbr HR0.out x8_1 p112 q112
    cases e112
    replace p112 := eq_true p112
    replace q112 := eq_true q112
    go_wp2
    go_ret
    exact zH91
   rw [if_neg c6] at H
   have c6b0 : (a1.toList == (rdOf ByteArray.empty l0 x8_1).toList) = false := beq_eq_false_iff_ne.mpr c6
   have c6b1 : (a1.toList != (rdOf ByteArray.empty l0 x8_1).toList) = true := bne_iff_ne.mpr c6
   have H' := za H
   clear H
   have p112 : 0 ≤ (x8_1 : Int) := zO
   have q112 : x8_1 < (l0.length : Int) := zO
   obtain ⟨ad112, e112, hx112_0⟩ := zbr HR0.out x8_1 p112 q112
   cases e112
   replace p112 := eq_true p112
   replace q112 := eq_true q112
   go_wp2
   go_roundg k1
   case measure => have := HK1.out; omega
   case rel => exact ⟨(wrap64 (x8_1 + 1)), zG105, H', ⟨zH127⟩, zH120⟩
/-! ### slices_Contains_string_string: function 132 -/
def slices_Contains_string_string.f (k : Nat) (l0 : List ByteArray) (a1 : ByteArray) : Option (Bool) := (slices_Index_string_string.f k l0 a1).bind fun t113 => (some (decide (t113 ≥ 0)))
theorem slices_Contains_string_string.mono : ∀ a0 a1 k, LeO (slices_Contains_string_string.f k a0 a1) (slices_Contains_string_string.f (k + 1) a0 a1) := by
 intro a0 a1 k
 unfold slices_Contains_string_string.f
 repeat' first
   | (with_reducible exact slices_Index_string_string.mono _ _ _)
   | (with_reducible exact LeO.refl _)
   | (with_reducible exact LeO.none _)
   | (with_reducible refine LeO.ite ?_ ?_)
   | (with_reducible refine LeO.bind ?_ (fun _ => ?_))
   | exact slices_Index_string_string.mono _ _ _
   | exact LeO.none _
   | refine LeO.ite ?_ ?_
   | refine LeO.bind ?_ (fun _ => ?_)
set_option maxHeartbeats 64000000 in
set_option maxRecDepth 100000 in
theorem slices_Contains_string_string.calls (k : Nat) (A0 : Option Addr) (c0 : Nat) (l0 : List ByteArray) (a1 : ByteArray) (r : Bool) (w : World) (hr0 : Kd.C Kd.string w A0 l0.length l0) (hc0 : l0.length ≤ c0) (h : slices_Contains_string_string.f k l0 a1 = some r) :
  Calls Try.prog 132 #[.slice A0 l0.length c0, .string a1] w fun e w' => e = .returned (.bool r) ∧ Drawn0 w w' := by
 obtain ⟨HR0, HC0⟩ := zD2 hr0 hc0
 clear hr0 hc0
 have H : ((slices_Index_string_string.f k l0 a1).bind fun t113 => (some (decide (t113 ≥ 0)))) = some r := h
 clear h
 replace H := Option.bind_eq_some_iff.mp H
 obtain ⟨t113, A30, H⟩ := H
 replace H : (some (decide (t113 ≥ 0))) = some r := H
 have A3 := za A30
 clear A30
 obtain rfl := Option.some.inj H
 go_enter Try.func132, Try.ntmps132
 go_wp2_with (first | ((with_reducible refine gate_callee (f := 148) rfl ?_); refine goesL_ (some 7) rfl rfl Try.func148 zG106 rfl #[.slice A0 l0.length c0, .string a1] rfl zG80 ?_; (with_reducible refine (slices_Index_string_string.calls k _ _ l0 a1 t113 _ ?side1 ?side2 A3.out).mono ?_); (case side1 => exact zH84); (case side2 => exact zH128); rintro e w' ⟨rfl, ⟨nd, rfl⟩⟩; refine ⟨_, rfl, ?_⟩))
 go_ret
 exact zH91

/-! ### impl_hasTwice_string: function 89 -/
def impl_hasTwice_string.l0 : Nat → List ByteArray → List ByteArray → Int → Int → Option (Bool)
 | 0, _, _, _, _ => none
 | k + 1, x0, x5, x6, x7 => if x7 < x6 then (if 0 ≤ x7 then (if x7 < (x5.length : Int) then (if x7 ≤ (x0.length : Int) then ((slices_Contains_string_string.f k (x0.take (x7 : Int).toNat) (rdOf ByteArray.empty x5 x7)).bind fun t116 => (if t116 = true then (some true) else (impl_hasTwice_string.l0 k x0 x5 x6 (wrap64 (x7 + 1))))) else (none)) else (none)) else (none)) else (some false)
def impl_hasTwice_string.f (k : Nat) (l0 : List ByteArray) : Option (Bool) := impl_hasTwice_string.l0 k l0 l0 (l0.length : Int) 0
theorem impl_hasTwice_string.mono_l : ∀ k, (∀ y0 y1 y2 y3, LeO (impl_hasTwice_string.l0 k y0 y1 y2 y3) (impl_hasTwice_string.l0 (k + 1) y0 y1 y2 y3))
 | 0 => fun _ _ _ _ r h => by simp [impl_hasTwice_string.l0] at h
 | k + 1 => by
  have ih0 := impl_hasTwice_string.mono_l k
  ·intro y0 y1 y2 y3
   unfold impl_hasTwice_string.l0
   repeat' first
   | (with_reducible exact ih0 _ _ _ _)
   | (with_reducible exact slices_Contains_string_string.mono _ _ _)
   | (with_reducible exact LeO.refl _)
   | (with_reducible exact LeO.none _)
   | (with_reducible refine LeO.ite ?_ ?_)
   | (with_reducible refine LeO.bind ?_ (fun _ => ?_))
   | exact ih0 _ _ _ _
   | exact slices_Contains_string_string.mono _ _ _
   | exact LeO.none _
   | refine LeO.ite ?_ ?_
   | refine LeO.bind ?_ (fun _ => ?_)
theorem impl_hasTwice_string.mono : ∀ a0 k, LeO (impl_hasTwice_string.f k a0) (impl_hasTwice_string.f (k + 1) a0) := by
 intro a0 k
 have ih0 := impl_hasTwice_string.mono_l k
 unfold impl_hasTwice_string.f
 repeat' first
   | (with_reducible exact ih0 _ _ _ _)
   | (with_reducible exact slices_Contains_string_string.mono _ _ _)
   | (with_reducible exact LeO.refl _)
   | (with_reducible exact LeO.none _)
   | (with_reducible refine LeO.ite ?_ ?_)
   | (with_reducible refine LeO.bind ?_ (fun _ => ?_))
   | exact ih0 _ _ _ _
   | exact slices_Contains_string_string.mono _ _ _
   | exact LeO.none _
   | refine LeO.ite ?_ ?_
   | refine LeO.bind ?_ (fun _ => ?_)
set_option maxHeartbeats 64000000 in
set_option maxRecDepth 100000 in
theorem impl_hasTwice_string.calls (k : Nat) (A0 : Option Addr) (c0 : Nat) (l0 : List ByteArray) (r : Bool) (w : World) (hr0 : Kd.C Kd.string w A0 l0.length l0) (hc0 : l0.length ≤ c0) (h : impl_hasTwice_string.f k l0 = some r) :
  Calls Try.prog 89 #[.slice A0 l0.length c0] w fun e w' => e = .returned (.bool r) ∧ Drawn0 w w' := by
 obtain ⟨HR0, HC0⟩ := zD2 hr0 hc0
 clear hr0 hc0
 have H : (impl_hasTwice_string.l0 k l0 l0 (l0.length : Int) 0) = some r := h
 clear h
 have H' := za H
 clear H
 go_enter Try.func89, Try.ntmps89
 go_wp2
 go_loopg [7] k (fun kq v7 w' => ∃ (x7_1 : Int), v7 = .int .i64 x7_1 ∧ Aside0 (impl_hasTwice_string.l0 kq l0 l0 (l0.length : Int) x7_1 = some r) ∧ Aside0 (kq ≤ k) ∧ Drawn0 w w')
 case atStart => exact ⟨(0), zG105, H', ⟨Nat.le_refl _⟩, zH120⟩
 case round =>
  clear H'
  obtain ⟨x7_1, rfl, HA, HK1, ⟨m1, rfl⟩⟩ := hrel
  cases gk with
  | zero => exact absurd HA.out (by simp [impl_hasTwice_string.l0])
  | succ k1 =>
   have H := HA.out
   clear HA
   simp only [impl_hasTwice_string.l0] at H
   by_cases c2 : x7_1 < (l0.length : Int)
   rotate_left
   ·rw [if_neg c2] at H
    have c2b0 := decide_eq_false c2
    clear c2
    obtain rfl := Option.some.inj H
    go_wp2
    go_ret
    exact zH91

   rw [if_pos c2] at H
   have c2b0 := decide_eq_true c2
   clear c2
   by_cases c3 : 0 ≤ x7_1
   rotate_left
   ·rw [if_neg c3] at H
    exact absurd H (by simp)
   rw [if_pos c3] at H
   have c3b0 := decide_eq_true c3
   clear c3
   by_cases c4 : x7_1 < (l0.length : Int)
   rotate_left
   ·rw [if_neg c4] at H
    exact absurd H (by simp)
   rw [if_pos c4] at H
   have c4b0 := decide_eq_true c4
   clear c4
   have c5b0 := eq_true (zO : 0 ≤ x7_1)
   by_cases c6 : x7_1 ≤ (l0.length : Int)
   rotate_left
   ·rw [if_neg c6] at H
    exact absurd H (by simp)
   rw [if_pos c6] at H
   have c6b0 := eq_true c6
   have c6b1 := decide_eq_true c6
   clear c6
   replace H := Option.bind_eq_some_iff.mp H
   obtain ⟨t116, A70, H⟩ := H
   replace H : (if t116 = true then (some true) else (impl_hasTwice_string.l0 k1 l0 l0 (l0.length : Int) (wrap64 (x7_1 + 1)))) = some r := H
   have A7 := za A70
   clear A70
   by_cases c8 : t116 = true
   ·subst c8
    have H1 : (some true) = some r := by rw [if_pos rfl] at H; exact H
    clear H
    have H := H1
    clear H1
    obtain rfl := Option.some.inj H
    have p114 : 0 ≤ (x7_1 : Int) := zO
    have q114 : x7_1 < (l0.length : Int) := zO
    obtain ⟨ad114, e114, hx114_0⟩ := zbr HR0.out x7_1 p114 q114
    cases e114
    replace p114 := eq_true p114
    replace q114 := eq_true q114
    obtain ⟨i09, hi09, _, hsz9, _⟩ := info_parts info9
    obtain ⟨hcut9, hA9, hC9⟩ := print_take_of (P := Try.prog) Value.string (⟨#[]⟩ : ByteArray) 70 9 .i64 Try.underlying70 hi09 hsz9 (some ad114) c0 l0 x7_1 zO zO HC0.out
    obtain ⟨HR115, HC115⟩ := zD2 (zbp (h1 := fun _ => rfl) (hA9 _ (zbq HR0.out))) hC9
    clear hA9 hC9 hi09 hsz9
    go_wp2_with (first | ((with_reducible refine gate_callee (f := 132) rfl ?_); refine goesL_ (some 16) rfl rfl Try.func132 zG106 rfl #[.slice (some ad114) (l0.take (x7_1 : Int).toNat).length c0, .string (rdOf ByteArray.empty l0 x7_1)] rfl zK169 ?_; (with_reducible refine (slices_Contains_string_string.calls k1 _ _ (l0.take (x7_1 : Int).toNat) (rdOf ByteArray.empty l0 x7_1) true _ ?side1 ?side2 A7.out).mono ?_); (case side1 => exact zH79); (case side2 => exact HC115.out); rintro e w' ⟨rfl, ⟨nd, rfl⟩⟩; refine ⟨_, rfl, ?_⟩))
    go_ret
    exact zH91
   replace c8 := Bool.eq_false_iff.mpr c8
   subst c8
   have H1 : (impl_hasTwice_string.l0 k1 l0 l0 (l0.length : Int) (wrap64 (x7_1 + 1))) = some r := by rw [if_neg (show ¬ (false = true) by decide)] at H; exact H
   clear H
   have H := H1
   clear H1
   have H' := za H
   clear H
   have p114 : 0 ≤ (x7_1 : Int) := zO
   have q114 : x7_1 < (l0.length : Int) := zO
   obtain ⟨ad114, e114, hx114_0⟩ := zbr HR0.out x7_1 p114 q114
   cases e114
   replace p114 := eq_true p114
   replace q114 := eq_true q114
   obtain ⟨i010, hi010, _, hsz10, _⟩ := info_parts info9
   obtain ⟨hcut10, hA10, hC10⟩ := print_take_of (P := Try.prog) Value.string (⟨#[]⟩ : ByteArray) 70 9 .i64 Try.underlying70 hi010 hsz10 (some ad114) c0 l0 x7_1 zO zO HC0.out
   obtain ⟨HR115, HC115⟩ := zD2 (zbp (h1 := fun _ => rfl) (hA10 _ (zbq HR0.out))) hC10
   clear hA10 hC10 hi010 hsz10
   go_wp2_with (first | ((with_reducible refine gate_callee (f := 132) rfl ?_); refine goesL_ (some 16) rfl rfl Try.func132 zG106 rfl #[.slice (some ad114) (l0.take (x7_1 : Int).toNat).length c0, .string (rdOf ByteArray.empty l0 x7_1)] rfl zK169 ?_; (with_reducible refine (slices_Contains_string_string.calls k1 _ _ (l0.take (x7_1 : Int).toNat) (rdOf ByteArray.empty l0 x7_1) false _ ?side1 ?side2 A7.out).mono ?_); (case side1 => exact zH79); (case side2 => exact HC115.out); rintro e w' ⟨rfl, ⟨nd, rfl⟩⟩; refine ⟨_, rfl, ?_⟩))
   go_roundg k1
   case measure => have := HK1.out; omega
   case rel => exact ⟨(wrap64 (x7_1 + 1)), zG105, H', ⟨zH127⟩, zH120⟩
/-! ### impl_areStocked: function 86 -/
def impl_areStocked.l0 : Nat → Int → List ByteArray → List (S124) → Int → Int → Option (Bool)
 | 0, _, _, _, _, _ => none
 | k + 1, x2, x7, x15, x16, x17 => if x17 < x16 then (if 0 ≤ x17 then (if x17 < (x15.length : Int) then ((impl_NameOK.f k ((rd_T124 x15 x17).f0)).bind fun t123 => (if t123 = true then ((impl_within.f ((rd_T124 x15 x17).f1) x2 100000).bind fun t124 => (if t124 = true then (if x7.length < 8796093022208 then (impl_areStocked.l0 k x2 (x7 ++ [(rd_T124 x15 x17).f0]) x15 x16 (wrap64 (x17 + 1))) else (none)) else (some false))) else (some false))) else (none)) else (none)) else ((impl_hasTwice_string.f k x7).bind fun t120 => (some (!t120)))
def impl_areStocked.f (k : Nat) (l0 : List (S124)) (a1 : Int) (a2 : Int) : Option (Bool) := if (l0.length : Int) > a1 then (some false) else (impl_areStocked.l0 k a2 (([] : List ByteArray)) l0 (l0.length : Int) 0)
theorem impl_areStocked.mono_l : ∀ k, (∀ y0 y1 y2 y3 y4, LeO (impl_areStocked.l0 k y0 y1 y2 y3 y4) (impl_areStocked.l0 (k + 1) y0 y1 y2 y3 y4))
 | 0 => fun _ _ _ _ _ r h => by simp [impl_areStocked.l0] at h
 | k + 1 => by
  have ih0 := impl_areStocked.mono_l k
  ·intro y0 y1 y2 y3 y4
   unfold impl_areStocked.l0
   repeat' first
   | (with_reducible exact ih0 _ _ _ _ _)
   | (with_reducible exact impl_NameOK.mono _ _)
   | (with_reducible exact impl_hasTwice_string.mono _ _)
   | (with_reducible exact LeO.refl _)
   | (with_reducible exact LeO.none _)
   | (with_reducible refine LeO.ite ?_ ?_)
   | (with_reducible refine LeO.bind ?_ (fun _ => ?_))
   | exact ih0 _ _ _ _ _
   | exact impl_NameOK.mono _ _
   | exact impl_hasTwice_string.mono _ _
   | exact LeO.none _
   | refine LeO.ite ?_ ?_
   | refine LeO.bind ?_ (fun _ => ?_)
theorem impl_areStocked.mono : ∀ a0 a1 a2 k, LeO (impl_areStocked.f k a0 a1 a2) (impl_areStocked.f (k + 1) a0 a1 a2) := by
 intro a0 a1 a2 k
 have ih0 := impl_areStocked.mono_l k
 unfold impl_areStocked.f
 repeat' first
   | (with_reducible exact ih0 _ _ _ _ _)
   | (with_reducible exact impl_NameOK.mono _ _)
   | (with_reducible exact impl_hasTwice_string.mono _ _)
   | (with_reducible exact LeO.refl _)
   | (with_reducible exact LeO.none _)
   | (with_reducible refine LeO.ite ?_ ?_)
   | (with_reducible refine LeO.bind ?_ (fun _ => ?_))
   | exact ih0 _ _ _ _ _
   | exact impl_NameOK.mono _ _
   | exact impl_hasTwice_string.mono _ _
   | exact LeO.none _
   | refine LeO.ite ?_ ?_
   | refine LeO.bind ?_ (fun _ => ?_)
set_option maxHeartbeats 64000000 in
set_option maxRecDepth 100000 in
theorem impl_areStocked.calls (k : Nat) (A0 : Option Addr) (c0 : Nat) (l0 : List (S124)) (a1 : Int) (a2 : Int) (r : Bool) (w : World) (hr0 : Kd.C k124 w A0 l0.length l0) (hc0 : l0.length ≤ c0) (h : impl_areStocked.f k l0 a1 a2 = some r) :
  Calls Try.prog 86 #[.slice A0 l0.length c0, .int .i64 a1, .int .i64 a2] w fun e w' => e = .returned (.bool r) ∧ Below w.heap.size w w' := by
 have hu124 := Try.underlying124
 obtain ⟨HR0, HC0, HB⟩ := zD3 hr0 hc0 (Below.refl w.heap.size w)
 clear hr0 hc0
 have H : (if (l0.length : Int) > a1 then (some false) else (impl_areStocked.l0 k a2 (([] : List ByteArray)) l0 (l0.length : Int) 0)) = some r := h
 clear h
 by_cases c4 : (l0.length : Int) > a1
 ·rw [if_pos c4] at H
  have c4b0 : decide (a1 < (l0.length : Int)) = true := decide_eq_true c4
  clear c4
  obtain rfl := Option.some.inj H
  go_enter Try.func86, Try.ntmps86
  go_wp2
  go_ret
  exact zH43
 rw [if_neg c4] at H
 have c4b0 : decide (a1 < (l0.length : Int)) = false := decide_eq_false c4
 clear c4
 obtain ⟨y117, hy117⟩ : ∃ y_ : List ByteArray, y_ = (([] : List ByteArray)) := ⟨_, rfl⟩
 replace H : (impl_areStocked.l0 k a2 y117 l0 (l0.length : Int) 0) = some r := by first | (rw [hy117]; with_reducible exact H) | (have H2_ := (Option.bind_some _ _).symm.trans H; rw [hy117]; with_reducible exact H2_) | (have H2_ := (Option.bind_some _ _).symm.trans H; with_reducible exact H2_) | with_reducible exact H | (rw [hy117]; exact H) | exact H
 have Ny117 := za hy117
 clear hy117
 have H' := za H
 clear H
 go_enter Try.func86, Try.ntmps86
 go_wp2_with (first | ((with_reducible refine gate_dst (N := 14) rfl ?_); refine zbm Kd.string _ 9 ?hg (N := 14) ?hd (xs := ([] : List ByteArray)) (inner := []) (ok := fun _ => True) (okp := fun _ => True) ?hr ?hp (fun _ hk => hk) trivial (Below.refl _ _) (Nat.le_refl _) (by simp) ?_; (case hd => rfl); (case hg => rfl); (case hr => exact zH124); (case hp => exact (Reps.none _ _)); intro v118 w5 ho6 hb hg_ hnew_; clear hg_ hnew_; (first | rw [← Ny117.out] at ho6 | (simp only [Int.reduceToNat] at ho6; rw [← Ny117.out] at ho6)); have n_ := zA_ (za (zah ho6 (zp zG85))) (za (zq zG85 hb)); clear HB; obtain ⟨HO119, HB⟩ := n_; clear hb ho6))
 go_loopg [7, 17] k (fun kq v7 v17 w' => ∃ (x7_1 : List ByteArray) (x17_1 : Int), v17 = .int .i64 x17_1 ∧ Aside0 (impl_areStocked.l0 kq a2 x7_1 l0 (l0.length : Int) x17_1 = some r) ∧ Aside0 (kq ≤ k) ∧ Aside0 (Kd.R Kd.string 9 w' w.heap.size (fun _ => True) v7 x7_1) ∧ Aside0 (Below w.heap.size w w'))
 case atStart => exact ⟨(y117), (0), zG105, H', ⟨Nat.le_refl _⟩, ⟨by (with_reducible repeat (first | apply zl | apply zm | apply zn)); exact HO119.out⟩, ⟨zH104⟩⟩
 case round =>
  clear H'
  try clear c4
  try clear c4b0
  obtain ⟨x7_1, x17_1, rfl, HA, HK1, HO_7, HB⟩ := hrel
  cases gk with
  | zero => exact absurd HA.out (by simp [impl_areStocked.l0])
  | succ k1 =>
   have H := HA.out
   clear HA
   simp only [impl_areStocked.l0] at H
   by_cases c7 : x17_1 < (l0.length : Int)
   rotate_left
   ·rw [if_neg c7] at H
    have c7b0 := decide_eq_false c7
    clear c7
    replace H := Option.bind_eq_some_iff.mp H
    obtain ⟨t120, A220, H⟩ := H
    replace H : (some (!t120)) = some r := H
    have A22 := za A220
    clear A220
    obtain rfl := Option.some.inj H
    obtain ⟨Ao23, co23, eo23⟩ := zaf HO_7.out
    subst eo23
    go_wp2_with (first | ((with_reducible refine gate_callee (f := 89) rfl ?_); refine goesL_ (some 39) rfl rfl Try.func89 zG106 rfl #[.slice Ao23 x7_1.length co23] rfl zG80 ?_; (with_reducible refine (impl_hasTwice_string.calls k1 _ _ x7_1 t120 _ ?side1 ?side2 A22.out).mono ?_); (case side1 => repeat (first | exact (Kd.R_reads' HO_7.out).2.2 | (with_reducible refine zu ?_ _) | (with_reducible refine zv ?_ _) | (with_reducible refine zy ?_))); (case side2 => exact (Kd.R_reads' HO_7.out).2.1); rintro e w' ⟨rfl, ⟨nd, rfl⟩⟩; refine ⟨_, rfl, ?_⟩))
    go_ret
    exact zH43

   rw [if_pos c7] at H
   have c7b0 := decide_eq_true c7
   clear c7
   by_cases c8 : 0 ≤ x17_1
   rotate_left
   ·rw [if_neg c8] at H
    exact absurd H (by simp)
   rw [if_pos c8] at H
   have c8b0 := decide_eq_true c8
   clear c8
   by_cases c9 : x17_1 < (l0.length : Int)
   rotate_left
   ·rw [if_neg c9] at H
    exact absurd H (by simp)
   rw [if_pos c9] at H
   have c9b0 := decide_eq_true c9
   clear c9
   replace H := Option.bind_eq_some_iff.mp H
   obtain ⟨t123, A100, H⟩ := H
   replace H : (if t123 = true then ((impl_within.f ((rd_T124 l0 x17_1).f1) a2 100000).bind fun t124 => (if t124 = true then (if x7_1.length < 8796093022208 then (impl_areStocked.l0 k1 a2 (x7_1 ++ [(rd_T124 l0 x17_1).f0]) l0 (l0.length : Int) (wrap64 (x17_1 + 1))) else (none)) else (some false))) else (some false)) = some r := H
   have A10 := za A100
   clear A100
   by_cases c11 : t123 = true
   rotate_left
   ·replace c11 := Bool.eq_false_iff.mpr c11
    subst c11
    have H1 : (some false) = some r := by rw [if_neg (show ¬ (false = true) by decide)] at H; exact H
    clear H
    have H := H1
    clear H1
    obtain rfl := Option.some.inj H
    have p121 : 0 ≤ (x17_1 : Int) := zO
    have q121 : x17_1 < (l0.length : Int) := zO
    obtain ⟨ad121, e121, hx121_0, hx121_1⟩ := at_T124 HR0.out x17_1 p121 q121
    cases e121
    replace hx121_0 := (HB.out.cell (zj w _ hx121_0)).trans hx121_0
    replace hx121_1 := (HB.out.cell (zj w _ hx121_1)).trans hx121_1
    replace p121 := eq_true p121
    replace q121 := eq_true q121
    go_wp2_with (first | ((with_reducible refine gate_dst (N := 9) rfl ?_); refine box_event ?hg (N := 9) ?hd (cs := #[.string (⟨#[]⟩ : ByteArray), .int .i64 0]) (t := 124) ?hr ?_; (case hd => rfl); (case hg => rfl); (case hr => exact zH124); intro gb122 hg w20 hbox hb; have n_ := zA_ (za (zt zK247 hb)) (zA_ (za (zq zG85 hb)) (zA_ (za (hbox)) (zA_ (zN1 w.heap.size hg (zp zG85)) (zN1 w.heap.size hg (zp zG85))))); clear HO_7 HB; obtain ⟨HO_7, HB, BK122, GW122, GE122⟩ := n_; clear hb hbox hg; obtain ⟨hcz21_0, hcz21_1, hfz21_0, hfz21_1⟩ := zB2 BK122.out) | ((with_reducible refine gate_callee (f := 87) rfl ?_); refine goesL_ (some 23) rfl rfl Try.func87 zG106 rfl #[.string ((rd_T124 l0 x17_1).f0)] rfl zG80 ?_; (with_reducible refine (impl_NameOK.calls k1 ((rd_T124 l0 x17_1).f0) false _ A10.out).mono ?_); rintro e w' ⟨rfl, ⟨nd, rfl⟩⟩; refine ⟨_, rfl, ?_⟩))
    go_ret
    exact zH31
   subst c11
   have H1 : ((impl_within.f ((rd_T124 l0 x17_1).f1) a2 100000).bind fun t124 => (if t124 = true then (if x7_1.length < 8796093022208 then (impl_areStocked.l0 k1 a2 (x7_1 ++ [(rd_T124 l0 x17_1).f0]) l0 (l0.length : Int) (wrap64 (x17_1 + 1))) else (none)) else (some false))) = some r := by rw [if_pos rfl] at H; exact H
   clear H
   have H := H1
   clear H1
   replace H := Option.bind_eq_some_iff.mp H
   obtain ⟨t124, A120, H⟩ := H
   replace H : (if t124 = true then (if x7_1.length < 8796093022208 then (impl_areStocked.l0 k1 a2 (x7_1 ++ [(rd_T124 l0 x17_1).f0]) l0 (l0.length : Int) (wrap64 (x17_1 + 1))) else (none)) else (some false)) = some r := H
   have A12 := za A120
   clear A120
   by_cases c13 : t124 = true
   rotate_left
   ·replace c13 := Bool.eq_false_iff.mpr c13
    subst c13
    have H1 : (some false) = some r := by rw [if_neg (show ¬ (false = true) by decide)] at H; exact H
    clear H
    have H := H1
    clear H1
    obtain rfl := Option.some.inj H
    have p121 : 0 ≤ (x17_1 : Int) := zO
    have q121 : x17_1 < (l0.length : Int) := zO
    obtain ⟨ad121, e121, hx121_0, hx121_1⟩ := at_T124 HR0.out x17_1 p121 q121
    cases e121
    replace hx121_0 := (HB.out.cell (zj w _ hx121_0)).trans hx121_0
    replace hx121_1 := (HB.out.cell (zj w _ hx121_1)).trans hx121_1
    replace p121 := eq_true p121
    replace q121 := eq_true q121
    go_wp2_with (first | ((with_reducible refine gate_dst (N := 9) rfl ?_); refine box_event ?hg (N := 9) ?hd (cs := #[.string (⟨#[]⟩ : ByteArray), .int .i64 0]) (t := 124) ?hr ?_; (case hd => rfl); (case hg => rfl); (case hr => exact zH124); intro gb122 hg w18 hbox hb; have n_ := zA_ (za (zt zK247 hb)) (zA_ (za (zq zG85 hb)) (zA_ (za (hbox)) (zA_ (zN1 w.heap.size hg (zp zG85)) (zN1 w.heap.size hg (zp zG85))))); clear HO_7 HB; obtain ⟨HO_7, HB, BK122, GW122, GE122⟩ := n_; clear hb hbox hg; obtain ⟨hcz19_0, hcz19_1, hfz19_0, hfz19_1⟩ := zB2 BK122.out) | ((with_reducible refine gate_callee (f := 87) rfl ?_); refine goesL_ (some 23) rfl rfl Try.func87 zG106 rfl #[.string ((rd_T124 l0 x17_1).f0)] rfl zG80 ?_; (with_reducible refine (impl_NameOK.calls k1 ((rd_T124 l0 x17_1).f0) true _ A10.out).mono ?_); rintro e w' ⟨rfl, ⟨nd, rfl⟩⟩; refine ⟨_, rfl, ?_⟩) | (go_at_call 88; (with_reducible refine (impl_within.calls ((rd_T124 l0 x17_1).f1) a2 100000 false _ A12.out).mono ?_); rintro e w' ⟨rfl, ⟨nd, rfl⟩⟩))
    go_ret
    exact zH31
   subst c13
   have H1 : (if x7_1.length < 8796093022208 then (impl_areStocked.l0 k1 a2 (x7_1 ++ [(rd_T124 l0 x17_1).f0]) l0 (l0.length : Int) (wrap64 (x17_1 + 1))) else (none)) = some r := by rw [if_pos rfl] at H; exact H
   clear H
   have H := H1
   clear H1
   by_cases c14 : x7_1.length < 8796093022208
   rotate_left
   ·rw [if_neg c14] at H
    exact absurd H (by simp)
   rw [if_pos c14] at H
   have LMc14 := za c14
   clear c14
   obtain ⟨y125, hy125⟩ : ∃ y_ : List ByteArray, y_ = (x7_1 ++ [(rd_T124 l0 x17_1).f0]) := ⟨_, rfl⟩
   replace H : (impl_areStocked.l0 k1 a2 y125 l0 (l0.length : Int) (wrap64 (x17_1 + 1))) = some r := by first | (rw [hy125]; with_reducible exact H) | (have H2_ := (Option.bind_some _ _).symm.trans H; rw [hy125]; with_reducible exact H2_) | (have H2_ := (Option.bind_some _ _).symm.trans H; with_reducible exact H2_) | with_reducible exact H | (rw [hy125]; exact H) | exact H
   have Ny125 := za hy125
   clear hy125
   have H' := za H
   clear H
   have p121 : 0 ≤ (x17_1 : Int) := zO
   have q121 : x17_1 < (l0.length : Int) := zO
   obtain ⟨ad121, e121, hx121_0, hx121_1⟩ := at_T124 HR0.out x17_1 p121 q121
   cases e121
   replace hx121_0 := (HB.out.cell (zj w _ hx121_0)).trans hx121_0
   replace hx121_1 := (HB.out.cell (zj w _ hx121_1)).trans hx121_1
   replace p121 := eq_true p121
   replace q121 := eq_true q121
   go_wp2_with (first | ((with_reducible refine gate_dst (N := 9) rfl ?_); refine box_event ?hg (N := 9) ?hd (cs := #[.string (⟨#[]⟩ : ByteArray), .int .i64 0]) (t := 124) ?hr ?_; (case hd => rfl); (case hg => rfl); (case hr => exact zH124); intro gb122 hg w15 hbox hb; have n_ := zA_ (za (zt zK247 hb)) (zA_ (za (zq zG85 hb)) (zA_ (za (hbox)) (zA_ (zN1 w.heap.size hg (zp zG85)) (zN1 w.heap.size hg (zp zG85))))); clear HO_7 HB; obtain ⟨HO_7, HB, BK122, GW122, GE122⟩ := n_; clear hb hbox hg; obtain ⟨hcz16_0, hcz16_1, hfz16_0, hfz16_1⟩ := zB2 BK122.out) | ((with_reducible refine gate_callee (f := 87) rfl ?_); refine goesL_ (some 23) rfl rfl Try.func87 zG106 rfl #[.string ((rd_T124 l0 x17_1).f0)] rfl zG80 ?_; (with_reducible refine (impl_NameOK.calls k1 ((rd_T124 l0 x17_1).f0) true _ A10.out).mono ?_); rintro e w' ⟨rfl, ⟨nd, rfl⟩⟩; refine ⟨_, rfl, ?_⟩) | (go_at_call 88; (with_reducible refine (impl_within.calls ((rd_T124 l0 x17_1).f1) a2 100000 true _ A12.out).mono ?_); rintro e w' ⟨rfl, ⟨nd, rfl⟩⟩) | ((with_reducible refine gate_builtin (b := .append) (xs := #[.tmp 32, .tmp 35]) rfl ?_); at_builtin; refine Kd.R_append Kd.string (w0 := w) w.heap.size rfl (.tmp 32) (.tmp 35) 70 9 (.string ⟨#[]⟩) 16 rfl Try.underlying70 info9 rfl zG107 (by omega) u7 x7_1 ((rd_T124 l0 x17_1).f0) [.string ((rd_T124 l0 x17_1).f0)] (fun _ => True) (fun _ => False) rfl (by first | (go_simp; done) | (go_simp; rfl)) ?aP (fun _ hk => hk.elim) ?aF ?aO ?aB ?aS ?aL ?_; (case aP => exact rfl); (case aB => exact zK199); (case aF => exact (fun _ _ => trivial)); (case aO => exact (by (with_reducible repeat (first | apply zl | apply zm | apply zn)); exact zx (zr (p := ⟨gb122, 1, none⟩) (zr (p := ⟨gb122, 0, none⟩) (zaa HO_7.out BK122.out zG107) (fun _ hk => hk.2) (.string ((rd_T124 l0 x17_1).f0))) (fun _ hk => hk.2) (.int .i64 ((rd_T124 l0 x17_1).f1))) (fun _ hk => trivial))); (case aS => exact (zp zK199)); (case aL => have := LMc14.out; omega); intro v126 w17 ho hb hg hat; rw [← Ny125.out] at ho; have n_ := zA_ (za (zaw (g := gb122) (o := .cells #[.string ((rd_T124 l0 x17_1).f0), .int .i64 ((rd_T124 l0 x17_1).f1)] 124 (0, 0)) (by (with_reducible repeat (first | refine zc ?_ _ | refine ze ?_ | refine zb ?_ _)); refine zw (cs := #[.string ((rd_T124 l0 x17_1).f0), .int .i64 0]) ?_ 1 _ rfl; (with_reducible repeat (first | refine zc ?_ _ | refine ze ?_ | refine zb ?_ _)); refine zw (cs := #[.string (⟨#[]⟩ : ByteArray), .int .i64 0]) ?_ 0 _ rfl; (with_reducible repeat (first | refine zc ?_ _ | refine ze ?_ | refine zb ?_ _)); exact BK122.out) hg (zap HO_7.out BK122.out zG107))) (zA_ (za (hb)) (za (ho))); clear BK122 HB HO_7; obtain ⟨BK122, HB, HO127⟩ := n_; clear ho hb hg hat))
   go_roundg k1
   case measure => have := HK1.out; omega
   case rel => exact ⟨(y125), (wrap64 (x17_1 + 1)), zG105, H', ⟨zH127⟩, ⟨by (with_reducible repeat (first | apply zl | apply zm | apply zn)); exact HO127.out⟩, ⟨zH80⟩⟩
end Go.Proofs.Ytojncbpeeboooaa.V
