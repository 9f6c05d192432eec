-- squeezed
-- made by pp.py (wip/tools) out of the translation; Lean checks it
import Derived.Test.YtojncbpeeboooaaY0
import Derived.Test.YtojncbpeeboooaaY2
import Derived.Test.YtojncbpeeboooaaY3
namespace Go.Proofs.Ytojncbpeeboooaa.Y
open Go.RowKit Go.Proofs.YtojncbpeeboooaaW.PrintWords Go.Proofs.YtojncbpeeboooaaW.PrintLast Go.Proofs.YtojncbpeeboooaaW.PrintMore
attribute [local go_sem] max2_int min2_int max_two min_two max_three min_three max_four min_four   -- for this text's walks alone
set_option linter.unusedVariables false
set_option linter.unusedSimpArgs false


/-! ### slices_Contains_string_string: function 132 -/
def slices_Contains_string_string.f (k : Nat) (l0 : List ByteArray) (a1 : ByteArray) : Option (Bool) := (slices_Index_string_string.f k l0 a1).bind fun t216 => (some (decide (t216 ≥ 0)))
theorem slices_Contains_string_string.mono : ∀ a0 a1 k, LeO (slices_Contains_string_string.f k a0 a1) (slices_Contains_string_string.f (k + 1) a0 a1) := by
 intro a0 a1 k
 unfold slices_Contains_string_string.f
 repeat' first
   | (with_reducible exact slices_Index_string_string.mono _ _ _)
   | (with_reducible exact LeO.refl _)
   | (with_reducible exact LeO.none _)
   | (with_reducible refine LeO.ite ?_ ?_)
   | (with_reducible refine LeO.bind ?_ (fun _ => ?_))
   | exact slices_Index_string_string.mono _ _ _
   | exact LeO.none _
   | refine LeO.ite ?_ ?_
   | refine LeO.bind ?_ (fun _ => ?_)
set_option maxHeartbeats 64000000 in
set_option maxRecDepth 100000 in
theorem slices_Contains_string_string.calls (k : Nat) (A0 : Option Addr) (c0 : Nat) (l0 : List ByteArray) (a1 : ByteArray) (r : Bool) (w : World) (hr0 : Kd.C Kd.string w A0 l0.length l0) (hc0 : l0.length ≤ c0) (h : slices_Contains_string_string.f k l0 a1 = some r) :
  Calls Try.prog 132 #[.slice A0 l0.length c0, .string a1] w fun e w' => e = .returned (.bool r) ∧ Drawn0 w w' := by
 obtain ⟨HR0, HC0⟩ := zD2 hr0 hc0
 clear hr0 hc0
 have H : ((slices_Index_string_string.f k l0 a1).bind fun t216 => (some (decide (t216 ≥ 0)))) = some r := h
 clear h
 replace H := Option.bind_eq_some_iff.mp H
 obtain ⟨t216, A30, H⟩ := H
 replace H : (some (decide (t216 ≥ 0))) = some r := H
 have A3 := za A30
 clear A30
 obtain rfl := Option.some.inj H
 go_enter Try.func132, Try.ntmps132
 go_wp2_with (first | ((with_reducible refine gate_callee (f := 148) rfl ?_); refine goesL_ (some 7) rfl rfl Try.func148 zG130 rfl #[.slice A0 l0.length c0, .string a1] rfl zG93 ?_; (with_reducible refine (slices_Index_string_string.calls k _ _ l0 a1 t216 _ ?side1 ?side2 A3.out).mono ?_); (case side1 => exact zH79); (case side2 => exact HC0.out); rintro e w' ⟨rfl, ⟨nd, rfl⟩⟩; refine ⟨_, rfl, ?_⟩))
 go_ret
 exact zH91

/-! ### impl_hasTwice_string: function 89 -/
def impl_hasTwice_string.l0 : Nat → List ByteArray → List ByteArray → Int → Int → Option (Bool)
 | 0, _, _, _, _ => none
 | k + 1, x0, x5, x6, x7 => if x7 < x6 then (if 0 ≤ x7 then (if x7 < (x5.length : Int) then (if x7 ≤ (x0.length : Int) then ((slices_Contains_string_string.f k (x0.take (x7 : Int).toNat) (rdOf ByteArray.empty x5 x7)).bind fun t219 => (if t219 = true then (some true) else (impl_hasTwice_string.l0 k x0 x5 x6 (wrap64 (x7 + 1))))) else (none)) else (none)) else (none)) else (some false)
def impl_hasTwice_string.f (k : Nat) (l0 : List ByteArray) : Option (Bool) := impl_hasTwice_string.l0 k l0 l0 (l0.length : Int) 0
theorem impl_hasTwice_string.mono_l : ∀ k, (∀ y0 y1 y2 y3, LeO (impl_hasTwice_string.l0 k y0 y1 y2 y3) (impl_hasTwice_string.l0 (k + 1) y0 y1 y2 y3))
 | 0 => fun _ _ _ _ r h => by simp [impl_hasTwice_string.l0] at h
 | k + 1 => by
  have ih0 := impl_hasTwice_string.mono_l k
  ·intro y0 y1 y2 y3
   unfold impl_hasTwice_string.l0
   repeat' first
   | (with_reducible exact ih0 _ _ _ _)
   | (with_reducible exact slices_Contains_string_string.mono _ _ _)
   | (with_reducible exact LeO.refl _)
   | (with_reducible exact LeO.none _)
   | (with_reducible refine LeO.ite ?_ ?_)
   | (with_reducible refine LeO.bind ?_ (fun _ => ?_))
   | exact ih0 _ _ _ _
   | exact slices_Contains_string_string.mono _ _ _
   | exact LeO.none _
   | refine LeO.ite ?_ ?_
   | refine LeO.bind ?_ (fun _ => ?_)
theorem impl_hasTwice_string.mono : ∀ a0 k, LeO (impl_hasTwice_string.f k a0) (impl_hasTwice_string.f (k + 1) a0) := by
 intro a0 k
 have ih0 := impl_hasTwice_string.mono_l k
 unfold impl_hasTwice_string.f
 repeat' first
   | (with_reducible exact ih0 _ _ _ _)
   | (with_reducible exact slices_Contains_string_string.mono _ _ _)
   | (with_reducible exact LeO.refl _)
   | (with_reducible exact LeO.none _)
   | (with_reducible refine LeO.ite ?_ ?_)
   | (with_reducible refine LeO.bind ?_ (fun _ => ?_))
   | exact ih0 _ _ _ _
   | exact slices_Contains_string_string.mono _ _ _
   | exact LeO.none _
   | refine LeO.ite ?_ ?_
   | refine LeO.bind ?_ (fun _ => ?_)
set_option maxHeartbeats 64000000 in
set_option maxRecDepth 100000 in
theorem impl_hasTwice_string.calls (k : Nat) (A0 : Option Addr) (c0 : Nat) (l0 : List ByteArray) (r : Bool) (w : World) (hr0 : Kd.C Kd.string w A0 l0.length l0) (hc0 : l0.length ≤ c0) (h : impl_hasTwice_string.f k l0 = some r) :
  Calls Try.prog 89 #[.slice A0 l0.length c0] w fun e w' => e = .returned (.bool r) ∧ Drawn0 w w' := by
 obtain ⟨HR0, HC0⟩ := zD2 hr0 hc0
 clear hr0 hc0
 have H : (impl_hasTwice_string.l0 k l0 l0 (l0.length : Int) 0) = some r := h
 clear h
 have H' := za H
 clear H
 go_enter Try.func89, Try.ntmps89
 go_wp2
 go_loopg [7] k (fun kq v7 w' => ∃ (x7_1 : Int), v7 = .int .i64 x7_1 ∧ Aside0 (impl_hasTwice_string.l0 kq l0 l0 (l0.length : Int) x7_1 = some r) ∧ Aside0 (kq ≤ k) ∧ Drawn0 w w')
 case atStart => exact ⟨(0), zG129, H', ⟨Nat.le_refl _⟩, zH120⟩
 case round =>
  clear H'
  obtain ⟨x7_1, rfl, HA, HK1, ⟨m1, rfl⟩⟩ := hrel
  cases gk with
  | zero => exact absurd HA.out (by simp [impl_hasTwice_string.l0])
  | succ k1 =>
   have H := HA.out
   clear HA
   simp only [impl_hasTwice_string.l0] at H
   by_cases c2 : x7_1 < (l0.length : Int)
   rotate_left
   ·rw [if_neg c2] at H
    have c2b0 := decide_eq_false c2
    clear c2
    obtain rfl := Option.some.inj H
    go_wp2
    go_ret
    exact zH91

   rw [if_pos c2] at H
   have c2b0 := decide_eq_true c2
   clear c2
   by_cases c3 : 0 ≤ x7_1
   rotate_left
   ·rw [if_neg c3] at H
    exact absurd H (by simp)
   rw [if_pos c3] at H
   have c3b0 := decide_eq_true c3
   clear c3
   by_cases c4 : x7_1 < (l0.length : Int)
   rotate_left
   ·rw [if_neg c4] at H
    exact absurd H (by simp)
   rw [if_pos c4] at H
   have c4b0 := decide_eq_true c4
   clear c4
   have c5b0 := eq_true (zO : 0 ≤ x7_1)
   by_cases c6 : x7_1 ≤ (l0.length : Int)
   rotate_left
   ·rw [if_neg c6] at H
    exact absurd H (by simp)
   rw [if_pos c6] at H
   have c6b0 := eq_true c6
   have c6b1 := decide_eq_true c6
   clear c6
   replace H := Option.bind_eq_some_iff.mp H
   obtain ⟨t219, A70, H⟩ := H
   replace H : (if t219 = true then (some true) else (impl_hasTwice_string.l0 k1 l0 l0 (l0.length : Int) (wrap64 (x7_1 + 1)))) = some r := H
   have A7 := za A70
   clear A70
   by_cases c8 : t219 = true
   ·subst c8
    have H1 : (some true) = some r := by rw [if_pos rfl] at H; exact H
    clear H
    have H := H1
    clear H1
    obtain rfl := Option.some.inj H
    have p217 : 0 ≤ (x7_1 : Int) := zO
    have q217 : x7_1 < (l0.length : Int) := zO
    obtain ⟨ad217, e217, hx217_0⟩ := zbg HR0.out x7_1 p217 q217
    cases e217
    replace p217 := eq_true p217
    replace q217 := eq_true q217
    obtain ⟨i09, hi09, _, hsz9, _⟩ := info_parts info9
    obtain ⟨hcut9, hA9, hC9⟩ := print_take_of (P := Try.prog) Value.string (⟨#[]⟩ : ByteArray) 70 9 .i64 Try.underlying70 hi09 hsz9 (some ad217) c0 l0 x7_1 zO zO HC0.out
    obtain ⟨HR218, HC218⟩ := zD2 (zcd (h1 := fun _ => rfl) (hA9 _ (zce HR0.out))) hC9
    clear hA9 hC9 hi09 hsz9
    go_wp2_with (first | ((with_reducible refine gate_callee (f := 132) rfl ?_); refine goesL_ (some 16) rfl rfl Try.func132 zG130 rfl #[.slice (some ad217) (l0.take (x7_1 : Int).toNat).length c0, .string (rdOf ByteArray.empty l0 x7_1)] rfl zK176 ?_; (with_reducible refine (slices_Contains_string_string.calls k1 _ _ (l0.take (x7_1 : Int).toNat) (rdOf ByteArray.empty l0 x7_1) true _ ?side1 ?side2 A7.out).mono ?_); (case side1 => exact zH78); (case side2 => exact HC218.out); rintro e w' ⟨rfl, ⟨nd, rfl⟩⟩; refine ⟨_, rfl, ?_⟩))
    go_ret
    exact zH91
   replace c8 := Bool.eq_false_iff.mpr c8
   subst c8
   have H1 : (impl_hasTwice_string.l0 k1 l0 l0 (l0.length : Int) (wrap64 (x7_1 + 1))) = some r := by rw [if_neg (show ¬ (false = true) by decide)] at H; exact H
   clear H
   have H := H1
   clear H1
   have H' := za H
   clear H
   have p217 : 0 ≤ (x7_1 : Int) := zO
   have q217 : x7_1 < (l0.length : Int) := zO
   obtain ⟨ad217, e217, hx217_0⟩ := zbg HR0.out x7_1 p217 q217
   cases e217
   replace p217 := eq_true p217
   replace q217 := eq_true q217
   obtain ⟨i010, hi010, _, hsz10, _⟩ := info_parts info9
   obtain ⟨hcut10, hA10, hC10⟩ := print_take_of (P := Try.prog) Value.string (⟨#[]⟩ : ByteArray) 70 9 .i64 Try.underlying70 hi010 hsz10 (some ad217) c0 l0 x7_1 zO zO HC0.out
   obtain ⟨HR218, HC218⟩ := zD2 (zcd (h1 := fun _ => rfl) (hA10 _ (zce HR0.out))) hC10
   clear hA10 hC10 hi010 hsz10
   go_wp2_with (first | ((with_reducible refine gate_callee (f := 132) rfl ?_); refine goesL_ (some 16) rfl rfl Try.func132 zG130 rfl #[.slice (some ad217) (l0.take (x7_1 : Int).toNat).length c0, .string (rdOf ByteArray.empty l0 x7_1)] rfl zK176 ?_; (with_reducible refine (slices_Contains_string_string.calls k1 _ _ (l0.take (x7_1 : Int).toNat) (rdOf ByteArray.empty l0 x7_1) false _ ?side1 ?side2 A7.out).mono ?_); (case side1 => exact zH78); (case side2 => exact HC218.out); rintro e w' ⟨rfl, ⟨nd, rfl⟩⟩; refine ⟨_, rfl, ?_⟩))
   go_roundg k1
   case measure => have := HK1.out; omega
   case rel => exact ⟨(wrap64 (x7_1 + 1)), zG129, H', ⟨zH128⟩, zH120⟩
/-! ### impl_areNames_1: function 151 -/
def impl_areNames_1.f (k : Nat) (a0 : ByteArray) : Option (Bool) := (impl_NameOK.f k a0).bind fun t220 => (some (!t220))
theorem impl_areNames_1.mono : ∀ a0 k, LeO (impl_areNames_1.f k a0) (impl_areNames_1.f (k + 1) a0) := by
 intro a0 k
 unfold impl_areNames_1.f
 repeat' first
   | (with_reducible exact impl_NameOK.mono _ _)
   | (with_reducible exact LeO.refl _)
   | (with_reducible exact LeO.none _)
   | (with_reducible refine LeO.ite ?_ ?_)
   | (with_reducible refine LeO.bind ?_ (fun _ => ?_))
   | exact impl_NameOK.mono _ _
   | exact LeO.none _
   | refine LeO.ite ?_ ?_
   | refine LeO.bind ?_ (fun _ => ?_)
set_option maxHeartbeats 64000000 in
set_option maxRecDepth 100000 in
theorem impl_areNames_1.calls (k : Nat) (a0 : ByteArray) (r : Bool) (w : World) (h : impl_areNames_1.f k a0 = some r) :
  Calls Try.prog 151 #[.string a0] w fun e w' => e = .returned (.bool r) ∧ Drawn0 w w' := by
 have H : ((impl_NameOK.f k a0).bind fun t220 => (some (!t220))) = some r := h
 clear h
 replace H := Option.bind_eq_some_iff.mp H
 obtain ⟨t220, A20, H⟩ := H
 replace H : (some (!t220)) = some r := H
 have A2 := za A20
 clear A20
 obtain rfl := Option.some.inj H
 go_enter Try.func151, Try.ntmps151
 go_wp2_with (first | ((with_reducible refine gate_callee (f := 87) rfl ?_); refine goesL_ (some 4) rfl rfl Try.func87 zG130 rfl #[.string a0] rfl zG93 ?_; (with_reducible refine (impl_NameOK.calls k a0 t220 _ A2.out).mono ?_); rintro e w' ⟨rfl, ⟨nd, rfl⟩⟩; refine ⟨_, rfl, ?_⟩))
 go_ret
 exact zH91

/-! ### slices_IndexFunc_at_impl_areNames_1: function 500001 -/
def slices_IndexFunc_at_impl_areNames_1.l0 : Nat → List ByteArray → Int → Int → Option (Int)
 | 0, _, _, _ => none
 | k + 1, x0, x7, x8 => if x8 < x7 then (if 0 ≤ x8 then (if x8 < (x0.length : Int) then ((impl_areNames_1.f k (rdOf ByteArray.empty x0 x8)).bind fun t222 => (if t222 = true then (some x8) else (slices_IndexFunc_at_impl_areNames_1.l0 k x0 x7 (wrap64 (x8 + 1))))) else (none)) else (none)) else (some (-1))
def slices_IndexFunc_at_impl_areNames_1.f (k : Nat) (l0 : List ByteArray)  : Option (Int) := slices_IndexFunc_at_impl_areNames_1.l0 k l0 (l0.length : Int) 0
theorem slices_IndexFunc_at_impl_areNames_1.mono_l : ∀ k, (∀ y0 y1 y2, LeO (slices_IndexFunc_at_impl_areNames_1.l0 k y0 y1 y2) (slices_IndexFunc_at_impl_areNames_1.l0 (k + 1) y0 y1 y2))
 | 0 => fun _ _ _ r h => by simp [slices_IndexFunc_at_impl_areNames_1.l0] at h
 | k + 1 => by
  have ih0 := slices_IndexFunc_at_impl_areNames_1.mono_l k
  ·intro y0 y1 y2
   unfold slices_IndexFunc_at_impl_areNames_1.l0
   repeat' first
   | (with_reducible exact ih0 _ _ _)
   | (with_reducible exact impl_areNames_1.mono _ _)
   | (with_reducible exact LeO.refl _)
   | (with_reducible exact LeO.none _)
   | (with_reducible refine LeO.ite ?_ ?_)
   | (with_reducible refine LeO.bind ?_ (fun _ => ?_))
   | exact ih0 _ _ _
   | exact impl_areNames_1.mono _ _
   | exact LeO.none _
   | refine LeO.ite ?_ ?_
   | refine LeO.bind ?_ (fun _ => ?_)
theorem slices_IndexFunc_at_impl_areNames_1.mono : ∀ a0 k, LeO (slices_IndexFunc_at_impl_areNames_1.f k a0) (slices_IndexFunc_at_impl_areNames_1.f (k + 1) a0) := by
 intro a0 k
 have ih0 := slices_IndexFunc_at_impl_areNames_1.mono_l k
 unfold slices_IndexFunc_at_impl_areNames_1.f
 repeat' first
   | (with_reducible exact ih0 _ _ _)
   | (with_reducible exact impl_areNames_1.mono _ _)
   | (with_reducible exact LeO.refl _)
   | (with_reducible exact LeO.none _)
   | (with_reducible refine LeO.ite ?_ ?_)
   | (with_reducible refine LeO.bind ?_ (fun _ => ?_))
   | exact ih0 _ _ _
   | exact impl_areNames_1.mono _ _
   | exact LeO.none _
   | refine LeO.ite ?_ ?_
   | refine LeO.bind ?_ (fun _ => ?_)
set_option maxHeartbeats 64000000 in
set_option maxRecDepth 100000 in
theorem slices_IndexFunc_at_impl_areNames_1.calls (k : Nat) (A0 : Option Addr) (c0 : Nat) (l0 : List ByteArray)  (r : Int) (w : World) (hr0 : Kd.C Kd.string w A0 l0.length l0) (hc0 : l0.length ≤ c0) (h : slices_IndexFunc_at_impl_areNames_1.f k l0 = some r) :
  Calls Try.prog 154 #[.slice A0 l0.length c0, .func (.func 151) #[] #[]] w fun e w' => e = .returned (.int .i64 r) ∧ Below w.heap.size w w' := by
 obtain ⟨HR0, HC0, HB⟩ := zD3 hr0 hc0 (Below.refl w.heap.size w)
 clear hr0 hc0
 have H : (slices_IndexFunc_at_impl_areNames_1.l0 k l0 (l0.length : Int) 0) = some r := h
 clear h
 have H' := za H
 clear H
 go_enter Try.func154, Try.ntmps154
 go_wp2
 go_loopg [8] k (fun kq v8 w' => ∃ (x8_1 : Int), v8 = .int .i64 x8_1 ∧ Aside0 (slices_IndexFunc_at_impl_areNames_1.l0 kq l0 (l0.length : Int) x8_1 = some r) ∧ Aside0 (kq ≤ k) ∧ Aside0 (Below w.heap.size w w'))
 case atStart => exact ⟨(0), zG129, H', ⟨Nat.le_refl _⟩, ⟨zH99⟩⟩
 case round =>
  clear H'
  obtain ⟨x8_1, rfl, HA, HK1, HB⟩ := hrel
  cases gk with
  | zero => exact absurd HA.out (by simp [slices_IndexFunc_at_impl_areNames_1.l0])
  | succ k1 =>
   have H := HA.out
   clear HA
   simp only [slices_IndexFunc_at_impl_areNames_1.l0] at H
   by_cases c3 : x8_1 < (l0.length : Int)
   rotate_left
   ·rw [if_neg c3] at H
    have c3b0 := decide_eq_false c3
    clear c3
    obtain rfl := Option.some.inj H
    go_wp2
    go_ret
    exact zH38

   rw [if_pos c3] at H
   have c3b0 := decide_eq_true c3
   clear c3
   by_cases c4 : 0 ≤ x8_1
   rotate_left
   ·rw [if_neg c4] at H
    exact absurd H (by simp)
   rw [if_pos c4] at H
   have c4b0 := decide_eq_true c4
   clear c4
   by_cases c5 : x8_1 < (l0.length : Int)
   rotate_left
   ·rw [if_neg c5] at H
    exact absurd H (by simp)
   rw [if_pos c5] at H
   have c5b0 := decide_eq_true c5
   clear c5
   replace H := Option.bind_eq_some_iff.mp H
   obtain ⟨t222, A60, H⟩ := H
   replace H : (if t222 = true then (some x8_1) else (slices_IndexFunc_at_impl_areNames_1.l0 k1 l0 (l0.length : Int) (wrap64 (x8_1 + 1)))) = some r := H
   have A6 := za A60
   clear A60
   by_cases c7 : t222 = true
   ·subst c7
    have H1 : (some x8_1) = some r := by rw [if_pos rfl] at H; exact H
    clear H
    have H := H1
    clear H1
    obtain rfl := Option.some.inj H
    have p221 : 0 ≤ (x8_1 : Int) := zO
    have q221 : x8_1 < (l0.length : Int) := zO
    obtain ⟨ad221, e221, hx221_0⟩ := zbg HR0.out x8_1 p221 q221
    cases e221
    replace hx221_0 := (HB.out.cell (zb w _ hx221_0)).trans hx221_0
    replace p221 := eq_true p221
    replace q221 := eq_true q221
    go_wp2_with (first | (go_at_call 151; (with_reducible refine (impl_areNames_1.calls k1 (rdOf ByteArray.empty l0 x8_1) true _ A6.out).mono ?_); rintro e w' ⟨rfl, ⟨nd, rfl⟩⟩))
    go_ret
    exact zH38
   replace c7 := Bool.eq_false_iff.mpr c7
   subst c7
   have H1 : (slices_IndexFunc_at_impl_areNames_1.l0 k1 l0 (l0.length : Int) (wrap64 (x8_1 + 1))) = some r := by rw [if_neg (show ¬ (false = true) by decide)] at H; exact H
   clear H
   have H := H1
   clear H1
   have H' := za H
   clear H
   have p221 : 0 ≤ (x8_1 : Int) := zO
   have q221 : x8_1 < (l0.length : Int) := zO
   obtain ⟨ad221, e221, hx221_0⟩ := zbg HR0.out x8_1 p221 q221
   cases e221
   replace hx221_0 := (HB.out.cell (zb w _ hx221_0)).trans hx221_0
   replace p221 := eq_true p221
   replace q221 := eq_true q221
   go_wp2_with (first | (go_at_call 151; (with_reducible refine (impl_areNames_1.calls k1 (rdOf ByteArray.empty l0 x8_1) false _ A6.out).mono ?_); rintro e w' ⟨rfl, ⟨nd, rfl⟩⟩))
   go_roundg k1
   case measure => have := HK1.out; omega
   case rel => exact ⟨(wrap64 (x8_1 + 1)), zG129, H', ⟨zH128⟩, ⟨zH99⟩⟩
/-! ### slices_ContainsFunc_at_impl_areNames_1: function 500000 -/
def slices_ContainsFunc_at_impl_areNames_1.f (k : Nat) (l0 : List ByteArray)  : Option (Bool) := (slices_IndexFunc_at_impl_areNames_1.f k l0).bind fun t223 => (some (decide (t223 ≥ 0)))
theorem slices_ContainsFunc_at_impl_areNames_1.mono : ∀ a0 k, LeO (slices_ContainsFunc_at_impl_areNames_1.f k a0) (slices_ContainsFunc_at_impl_areNames_1.f (k + 1) a0) := by
 intro a0 k
 unfold slices_ContainsFunc_at_impl_areNames_1.f
 repeat' first
   | (with_reducible exact slices_IndexFunc_at_impl_areNames_1.mono _ _)
   | (with_reducible exact LeO.refl _)
   | (with_reducible exact LeO.none _)
   | (with_reducible refine LeO.ite ?_ ?_)
   | (with_reducible refine LeO.bind ?_ (fun _ => ?_))
   | exact slices_IndexFunc_at_impl_areNames_1.mono _ _
   | exact LeO.none _
   | refine LeO.ite ?_ ?_
   | refine LeO.bind ?_ (fun _ => ?_)
set_option maxHeartbeats 64000000 in
set_option maxRecDepth 100000 in
theorem slices_ContainsFunc_at_impl_areNames_1.calls (k : Nat) (A0 : Option Addr) (c0 : Nat) (l0 : List ByteArray)  (r : Bool) (w : World) (hr0 : Kd.C Kd.string w A0 l0.length l0) (hc0 : l0.length ≤ c0) (h : slices_ContainsFunc_at_impl_areNames_1.f k l0 = some r) :
  Calls Try.prog 150 #[.slice A0 l0.length c0, .func (.func 151) #[] #[]] w fun e w' => e = .returned (.bool r) ∧ Below w.heap.size w w' := by
 obtain ⟨HR0, HC0, HB⟩ := zD3 hr0 hc0 (Below.refl w.heap.size w)
 clear hr0 hc0
 have H : ((slices_IndexFunc_at_impl_areNames_1.f k l0).bind fun t223 => (some (decide (t223 ≥ 0)))) = some r := h
 clear h
 replace H := Option.bind_eq_some_iff.mp H
 obtain ⟨t223, A30, H⟩ := H
 replace H : (some (decide (t223 ≥ 0))) = some r := H
 have A3 := za A30
 clear A30
 obtain rfl := Option.some.inj H
 go_enter Try.func150, Try.ntmps150
 go_wp2_with (first | ((with_reducible refine gate_callee (f := 154) rfl ?_); refine goesL_ (some 7) rfl rfl Try.func154 zG130 rfl #[.slice A0 l0.length c0, .func (.func 151) #[] #[]] rfl zG93 ?_; (with_reducible refine (slices_IndexFunc_at_impl_areNames_1.calls k _ _ l0 t223 _ ?side1 ?side2 A3.out).mono ?_); (case side1 => exact zH79); (case side2 => exact HC0.out); rintro e w4 ⟨rfl, hb⟩; refine ⟨_, rfl, ?_⟩; replace HB := za (zr zG102 hb); (try clear hb)))
 go_ret
 exact zH38

/-! ### impl_areNames: function 138 -/
def impl_areNames.f (k : Nat) (l0 : List ByteArray) : Option (Bool) := (slices_ContainsFunc_at_impl_areNames_1.f k l0).bind fun t224 => (some (!t224))
theorem impl_areNames.mono : ∀ a0 k, LeO (impl_areNames.f k a0) (impl_areNames.f (k + 1) a0) := by
 intro a0 k
 unfold impl_areNames.f
 repeat' first
   | (with_reducible exact slices_ContainsFunc_at_impl_areNames_1.mono _ _)
   | (with_reducible exact LeO.refl _)
   | (with_reducible exact LeO.none _)
   | (with_reducible refine LeO.ite ?_ ?_)
   | (with_reducible refine LeO.bind ?_ (fun _ => ?_))
   | exact slices_ContainsFunc_at_impl_areNames_1.mono _ _
   | exact LeO.none _
   | refine LeO.ite ?_ ?_
   | refine LeO.bind ?_ (fun _ => ?_)
set_option maxHeartbeats 64000000 in
set_option maxRecDepth 100000 in
theorem impl_areNames.calls (k : Nat) (A0 : Option Addr) (c0 : Nat) (l0 : List ByteArray) (r : Bool) (w : World) (hr0 : Kd.C Kd.string w A0 l0.length l0) (hc0 : l0.length ≤ c0) (h : impl_areNames.f k l0 = some r) :
  Calls Try.prog 138 #[.slice A0 l0.length c0] w fun e w' => e = .returned (.bool r) ∧ Below w.heap.size w w' := by
 obtain ⟨HR0, HC0, HB⟩ := zD3 hr0 hc0 (Below.refl w.heap.size w)
 clear hr0 hc0
 have H : ((slices_ContainsFunc_at_impl_areNames_1.f k l0).bind fun t224 => (some (!t224))) = some r := h
 clear h
 replace H := Option.bind_eq_some_iff.mp H
 obtain ⟨t224, A20, H⟩ := H
 replace H : (some (!t224)) = some r := H
 have A2 := za A20
 clear A20
 obtain rfl := Option.some.inj H
 go_enter Try.func138, Try.ntmps138
 go_wp2_with (first | ((with_reducible refine gate_callee (f := 150) rfl ?_); refine goesL_ (some 4) rfl rfl Try.func150 zG130 rfl #[.slice A0 l0.length c0, .func (.func 151) #[] #[]] rfl zG93 ?_; (with_reducible refine (slices_ContainsFunc_at_impl_areNames_1.calls k _ _ l0 t224 _ ?side1 ?side2 A2.out).mono ?_); (case side1 => exact zH79); (case side2 => exact HC0.out); rintro e w3 ⟨rfl, hb⟩; refine ⟨_, rfl, ?_⟩; replace HB := za (zr zG102 hb); (try clear hb)))
 go_ret
 exact zH38

/-! ### impl_isWorker: function 99 -/
def impl_isWorker.f (k : Nat) (a0_0 : ByteArray) (a0_1 : Int) (a0_2 : Int) (a0_3 : Int) (l0_4 : List ByteArray) : Option (Bool) := (impl_NameOK.f k a0_0).bind fun t226 => (if t226 = true then ((impl_within.f a0_1 0 10080).bind fun t227 => (if t227 = true then ((impl_within.f a0_2 0 10080).bind fun t228 => (if t228 = true then ((impl_within.f a0_3 0 1000).bind fun t229 => (if t229 = true then (if (l0_4.length : Int) ≤ 6 then ((impl_areNames.f k l0_4).bind fun t230 => (some t230)) else (some false)) else (some false))) else (some false))) else (some false))) else (some false))
theorem impl_isWorker.mono : ∀ a0 a1 a2 a3 a4 k, LeO (impl_isWorker.f k a0 a1 a2 a3 a4) (impl_isWorker.f (k + 1) a0 a1 a2 a3 a4) := by
 intro a0 a1 a2 a3 a4 k
 unfold impl_isWorker.f
 repeat' first
   | (with_reducible exact impl_NameOK.mono _ _)
   | (with_reducible exact impl_areNames.mono _ _)
   | (with_reducible exact LeO.refl _)
   | (with_reducible exact LeO.none _)
   | (with_reducible refine LeO.ite ?_ ?_)
   | (with_reducible refine LeO.bind ?_ (fun _ => ?_))
   | exact impl_NameOK.mono _ _
   | exact impl_areNames.mono _ _
   | exact LeO.none _
   | refine LeO.ite ?_ ?_
   | refine LeO.bind ?_ (fun _ => ?_)
set_option maxHeartbeats 64000000 in
set_option maxRecDepth 100000 in
theorem impl_isWorker.calls (k : Nat) (a0_0 : ByteArray) (a0_1 : Int) (a0_2 : Int) (a0_3 : Int) (A0_4 : Option Addr) (c0_4 : Nat) (l0_4 : List ByteArray) (r : Bool) (w : World) (hr0_4 : Kd.C Kd.string w A0_4 l0_4.length l0_4) (hc0_4 : l0_4.length ≤ c0_4) (h : impl_isWorker.f k a0_0 a0_1 a0_2 a0_3 l0_4 = some r) :
  Calls Try.prog 99 #[.agg #[.string a0_0, .int .i64 a0_1, .int .i64 a0_2, .int .i64 a0_3, .slice A0_4 l0_4.length c0_4]] w fun e w' => e = .returned (.bool r) ∧ Below w.heap.size w w' := by
 have hu72 := Try.underlying72
 obtain ⟨HR0_4, HC0_4, HB⟩ := zD3 hr0_4 hc0_4 (Below.refl w.heap.size w)
 clear hr0_4 hc0_4
 have H : ((impl_NameOK.f k a0_0).bind fun t226 => (if t226 = true then ((impl_within.f a0_1 0 10080).bind fun t227 => (if t227 = true then ((impl_within.f a0_2 0 10080).bind fun t228 => (if t228 = true then ((impl_within.f a0_3 0 1000).bind fun t229 => (if t229 = true then (if (l0_4.length : Int) ≤ 6 then ((impl_areNames.f k l0_4).bind fun t230 => (some t230)) else (some false)) else (some false))) else (some false))) else (some false))) else (some false))) = some r := h
 clear h
 replace H := Option.bind_eq_some_iff.mp H
 obtain ⟨t226, A20, H⟩ := H
 replace H : (if t226 = true then ((impl_within.f a0_1 0 10080).bind fun t227 => (if t227 = true then ((impl_within.f a0_2 0 10080).bind fun t228 => (if t228 = true then ((impl_within.f a0_3 0 1000).bind fun t229 => (if t229 = true then (if (l0_4.length : Int) ≤ 6 then ((impl_areNames.f k l0_4).bind fun t230 => (some t230)) else (some false)) else (some false))) else (some false))) else (some false))) else (some false)) = some r := H
 have A2 := za A20
 clear A20
 by_cases c3 : t226 = true
 rotate_left
 ·replace c3 := Bool.eq_false_iff.mpr c3
  subst c3
  have H1 : (some false) = some r := by rw [if_neg (show ¬ (false = true) by decide)] at H; exact H
  clear H
  have H := H1
  clear H1
  obtain rfl := Option.some.inj H
  go_enter Try.func99, Try.ntmps99
  go_wp2_with (first | ((with_reducible refine gate_dst (N := 1) rfl ?_); (try (refine gate_guard (by rfl) ?_; dsimp only)); refine box_event ?hg (N := 1) ?hd (cs := #[.string a0_0, .int .i64 a0_1, .int .i64 a0_2, .int .i64 a0_3, .slice A0_4 l0_4.length c0_4]) (t := 72) ?hr ?_; (case hd => rfl); (case hg => rfl); (case hr => exact zH125); intro gb225 hg w23 hbox hb; have n_ := zA_ (za (zr zG102 hb)) (zA_ (za (hbox)) (zA_ (zN1 w.heap.size hg (zo zG102)) (zN1 w.heap.size hg (zo zG102)))); clear HB; obtain ⟨HB, BK225, GW225, GE225⟩ := n_; clear hb hbox hg; obtain ⟨hcz24_0, hcz24_1, hcz24_2, hcz24_3, hcz24_4, hfz24_0, hfz24_1, hfz24_2, hfz24_3, hfz24_4⟩ := zB5 BK225.out) | ((with_reducible refine gate_callee (f := 87) rfl ?_); refine goesL_ (some 5) rfl rfl Try.func87 zG130 rfl #[.string a0_0] rfl zG93 ?_; (with_reducible refine (impl_NameOK.calls k a0_0 false _ A2.out).mono ?_); rintro e w' ⟨rfl, ⟨nd, rfl⟩⟩; refine ⟨_, rfl, ?_⟩))
  go_ret
  exact zH31

 subst c3
 have H1 : ((impl_within.f a0_1 0 10080).bind fun t227 => (if t227 = true then ((impl_within.f a0_2 0 10080).bind fun t228 => (if t228 = true then ((impl_within.f a0_3 0 1000).bind fun t229 => (if t229 = true then (if (l0_4.length : Int) ≤ 6 then ((impl_areNames.f k l0_4).bind fun t230 => (some t230)) else (some false)) else (some false))) else (some false))) else (some false))) = some r := by rw [if_pos rfl] at H; exact H
 clear H
 have H := H1
 clear H1
 replace H := Option.bind_eq_some_iff.mp H
 obtain ⟨t227, A40, H⟩ := H
 replace H : (if t227 = true then ((impl_within.f a0_2 0 10080).bind fun t228 => (if t228 = true then ((impl_within.f a0_3 0 1000).bind fun t229 => (if t229 = true then (if (l0_4.length : Int) ≤ 6 then ((impl_areNames.f k l0_4).bind fun t230 => (some t230)) else (some false)) else (some false))) else (some false))) else (some false)) = some r := H
 have A4 := za A40
 clear A40
 by_cases c5 : t227 = true
 rotate_left
 ·replace c5 := Bool.eq_false_iff.mpr c5
  subst c5
  have H1 : (some false) = some r := by rw [if_neg (show ¬ (false = true) by decide)] at H; exact H
  clear H
  have H := H1
  clear H1
  obtain rfl := Option.some.inj H
  go_enter Try.func99, Try.ntmps99
  go_wp2_with (first | ((with_reducible refine gate_dst (N := 1) rfl ?_); (try (refine gate_guard (by rfl) ?_; dsimp only)); refine box_event ?hg (N := 1) ?hd (cs := #[.string a0_0, .int .i64 a0_1, .int .i64 a0_2, .int .i64 a0_3, .slice A0_4 l0_4.length c0_4]) (t := 72) ?hr ?_; (case hd => rfl); (case hg => rfl); (case hr => exact zH125); intro gb225 hg w21 hbox hb; have n_ := zA_ (za (zr zG102 hb)) (zA_ (za (hbox)) (zA_ (zN1 w.heap.size hg (zo zG102)) (zN1 w.heap.size hg (zo zG102)))); clear HB; obtain ⟨HB, BK225, GW225, GE225⟩ := n_; clear hb hbox hg; obtain ⟨hcz22_0, hcz22_1, hcz22_2, hcz22_3, hcz22_4, hfz22_0, hfz22_1, hfz22_2, hfz22_3, hfz22_4⟩ := zB5 BK225.out) | ((with_reducible refine gate_callee (f := 87) rfl ?_); refine goesL_ (some 5) rfl rfl Try.func87 zG130 rfl #[.string a0_0] rfl zG93 ?_; (with_reducible refine (impl_NameOK.calls k a0_0 true _ A2.out).mono ?_); rintro e w' ⟨rfl, ⟨nd, rfl⟩⟩; refine ⟨_, rfl, ?_⟩) | (go_at_call 88; (with_reducible refine (impl_within.calls a0_1 0 10080 false _ A4.out).mono ?_); rintro e w' ⟨rfl, ⟨nd, rfl⟩⟩))
  go_ret
  exact zH31
 subst c5
 have H1 : ((impl_within.f a0_2 0 10080).bind fun t228 => (if t228 = true then ((impl_within.f a0_3 0 1000).bind fun t229 => (if t229 = true then (if (l0_4.length : Int) ≤ 6 then ((impl_areNames.f k l0_4).bind fun t230 => (some t230)) else (some false)) else (some false))) else (some false))) = some r := by rw [if_pos rfl] at H; exact H
 clear H
 have H := H1
 clear H1
 replace H := Option.bind_eq_some_iff.mp H
 obtain ⟨t228, A60, H⟩ := H
 replace H : (if t228 = true then ((impl_within.f a0_3 0 1000).bind fun t229 => (if t229 = true then (if (l0_4.length : Int) ≤ 6 then ((impl_areNames.f k l0_4).bind fun t230 => (some t230)) else (some false)) else (some false))) else (some false)) = some r := H
 have A6 := za A60
 clear A60
 by_cases c7 : t228 = true
 rotate_left
 ·replace c7 := Bool.eq_false_iff.mpr c7
  subst c7
  have H1 : (some false) = some r := by rw [if_neg (show ¬ (false = true) by decide)] at H; exact H
  clear H
  have H := H1
  clear H1
  obtain rfl := Option.some.inj H
  go_enter Try.func99, Try.ntmps99
  go_wp2_with (first | ((with_reducible refine gate_dst (N := 1) rfl ?_); (try (refine gate_guard (by rfl) ?_; dsimp only)); refine box_event ?hg (N := 1) ?hd (cs := #[.string a0_0, .int .i64 a0_1, .int .i64 a0_2, .int .i64 a0_3, .slice A0_4 l0_4.length c0_4]) (t := 72) ?hr ?_; (case hd => rfl); (case hg => rfl); (case hr => exact zH125); intro gb225 hg w19 hbox hb; have n_ := zA_ (za (zr zG102 hb)) (zA_ (za (hbox)) (zA_ (zN1 w.heap.size hg (zo zG102)) (zN1 w.heap.size hg (zo zG102)))); clear HB; obtain ⟨HB, BK225, GW225, GE225⟩ := n_; clear hb hbox hg; obtain ⟨hcz20_0, hcz20_1, hcz20_2, hcz20_3, hcz20_4, hfz20_0, hfz20_1, hfz20_2, hfz20_3, hfz20_4⟩ := zB5 BK225.out) | ((with_reducible refine gate_callee (f := 87) rfl ?_); refine goesL_ (some 5) rfl rfl Try.func87 zG130 rfl #[.string a0_0] rfl zG93 ?_; (with_reducible refine (impl_NameOK.calls k a0_0 true _ A2.out).mono ?_); rintro e w' ⟨rfl, ⟨nd, rfl⟩⟩; refine ⟨_, rfl, ?_⟩) | (go_at_call 88; (with_reducible refine (impl_within.calls a0_1 0 10080 true _ A4.out).mono ?_); rintro e w' ⟨rfl, ⟨nd, rfl⟩⟩) | (go_at_call 88; (with_reducible refine (impl_within.calls a0_2 0 10080 false _ A6.out).mono ?_); rintro e w' ⟨rfl, ⟨nd, rfl⟩⟩))
  go_ret
  exact zH31
 subst c7
 have H1 : ((impl_within.f a0_3 0 1000).bind fun t229 => (if t229 = true then (if (l0_4.length : Int) ≤ 6 then ((impl_areNames.f k l0_4).bind fun t230 => (some t230)) else (some false)) else (some false))) = some r := by rw [if_pos rfl] at H; exact H
 clear H
 have H := H1
 clear H1
 replace H := Option.bind_eq_some_iff.mp H
 obtain ⟨t229, A80, H⟩ := H
 replace H : (if t229 = true then (if (l0_4.length : Int) ≤ 6 then ((impl_areNames.f k l0_4).bind fun t230 => (some t230)) else (some false)) else (some false)) = some r := H
 have A8 := za A80
 clear A80
 by_cases c9 : t229 = true
 rotate_left
 ·replace c9 := Bool.eq_false_iff.mpr c9
  subst c9
  have H1 : (some false) = some r := by rw [if_neg (show ¬ (false = true) by decide)] at H; exact H
  clear H
  have H := H1
  clear H1
  obtain rfl := Option.some.inj H
  go_enter Try.func99, Try.ntmps99
  go_wp2_with (first | ((with_reducible refine gate_dst (N := 1) rfl ?_); (try (refine gate_guard (by rfl) ?_; dsimp only)); refine box_event ?hg (N := 1) ?hd (cs := #[.string a0_0, .int .i64 a0_1, .int .i64 a0_2, .int .i64 a0_3, .slice A0_4 l0_4.length c0_4]) (t := 72) ?hr ?_; (case hd => rfl); (case hg => rfl); (case hr => exact zH125); intro gb225 hg w17 hbox hb; have n_ := zA_ (za (zr zG102 hb)) (zA_ (za (hbox)) (zA_ (zN1 w.heap.size hg (zo zG102)) (zN1 w.heap.size hg (zo zG102)))); clear HB; obtain ⟨HB, BK225, GW225, GE225⟩ := n_; clear hb hbox hg; obtain ⟨hcz18_0, hcz18_1, hcz18_2, hcz18_3, hcz18_4, hfz18_0, hfz18_1, hfz18_2, hfz18_3, hfz18_4⟩ := zB5 BK225.out) | ((with_reducible refine gate_callee (f := 87) rfl ?_); refine goesL_ (some 5) rfl rfl Try.func87 zG130 rfl #[.string a0_0] rfl zG93 ?_; (with_reducible refine (impl_NameOK.calls k a0_0 true _ A2.out).mono ?_); rintro e w' ⟨rfl, ⟨nd, rfl⟩⟩; refine ⟨_, rfl, ?_⟩) | (go_at_call 88; (with_reducible refine (impl_within.calls a0_1 0 10080 true _ A4.out).mono ?_); rintro e w' ⟨rfl, ⟨nd, rfl⟩⟩) | (go_at_call 88; (with_reducible refine (impl_within.calls a0_2 0 10080 true _ A6.out).mono ?_); rintro e w' ⟨rfl, ⟨nd, rfl⟩⟩) | (go_at_call 88; (with_reducible refine (impl_within.calls a0_3 0 1000 false _ A8.out).mono ?_); rintro e w' ⟨rfl, ⟨nd, rfl⟩⟩))
  go_ret
  exact zH31
 subst c9
 have H1 : (if (l0_4.length : Int) ≤ 6 then ((impl_areNames.f k l0_4).bind fun t230 => (some t230)) else (some false)) = some r := by rw [if_pos rfl] at H; exact H
 clear H
 have H := H1
 clear H1
 by_cases c10 : (l0_4.length : Int) ≤ 6
 rotate_left
 ·rw [if_neg c10] at H
  have c10b0 := decide_eq_false c10
  have c10b1 : decide (l0_4.length ≤ 6) = false := decide_eq_false (by omega)
  clear c10
  obtain rfl := Option.some.inj H
  go_enter Try.func99, Try.ntmps99
  go_wp2_with (first | ((with_reducible refine gate_dst (N := 1) rfl ?_); (try (refine gate_guard (by rfl) ?_; dsimp only)); refine box_event ?hg (N := 1) ?hd (cs := #[.string a0_0, .int .i64 a0_1, .int .i64 a0_2, .int .i64 a0_3, .slice A0_4 l0_4.length c0_4]) (t := 72) ?hr ?_; (case hd => rfl); (case hg => rfl); (case hr => exact zH125); intro gb225 hg w15 hbox hb; have n_ := zA_ (za (zr zG102 hb)) (zA_ (za (hbox)) (zA_ (zN1 w.heap.size hg (zo zG102)) (zN1 w.heap.size hg (zo zG102)))); clear HB; obtain ⟨HB, BK225, GW225, GE225⟩ := n_; clear hb hbox hg; obtain ⟨hcz16_0, hcz16_1, hcz16_2, hcz16_3, hcz16_4, hfz16_0, hfz16_1, hfz16_2, hfz16_3, hfz16_4⟩ := zB5 BK225.out) | ((with_reducible refine gate_callee (f := 87) rfl ?_); refine goesL_ (some 5) rfl rfl Try.func87 zG130 rfl #[.string a0_0] rfl zG93 ?_; (with_reducible refine (impl_NameOK.calls k a0_0 true _ A2.out).mono ?_); rintro e w' ⟨rfl, ⟨nd, rfl⟩⟩; refine ⟨_, rfl, ?_⟩) | (go_at_call 88; (with_reducible refine (impl_within.calls a0_1 0 10080 true _ A4.out).mono ?_); rintro e w' ⟨rfl, ⟨nd, rfl⟩⟩) | (go_at_call 88; (with_reducible refine (impl_within.calls a0_2 0 10080 true _ A6.out).mono ?_); rintro e w' ⟨rfl, ⟨nd, rfl⟩⟩) | (go_at_call 88; (with_reducible refine (impl_within.calls a0_3 0 1000 true _ A8.out).mono ?_); rintro e w' ⟨rfl, ⟨nd, rfl⟩⟩))
  go_ret
  exact zH31
 rw [if_pos c10] at H
 have c10b0 := decide_eq_true c10
 have c10b1 : decide (l0_4.length ≤ 6) = true := decide_eq_true (by omega)
 clear c10
 replace H := Option.bind_eq_some_iff.mp H
 obtain ⟨t230, A110, H⟩ := H
 replace H : (some t230) = some r := H
 have A11 := za A110
 clear A110
 obtain rfl := Option.some.inj H
 go_enter Try.func99, Try.ntmps99
 go_wp2_with (first | ((with_reducible refine gate_dst (N := 1) rfl ?_); (try (refine gate_guard (by rfl) ?_; dsimp only)); refine box_event ?hg (N := 1) ?hd (cs := #[.string a0_0, .int .i64 a0_1, .int .i64 a0_2, .int .i64 a0_3, .slice A0_4 l0_4.length c0_4]) (t := 72) ?hr ?_; (case hd => rfl); (case hg => rfl); (case hr => exact zH125); intro gb225 hg w12 hbox hb; have n_ := zA_ (za (zr zG102 hb)) (zA_ (za (hbox)) (zA_ (zN1 w.heap.size hg (zo zG102)) (zN1 w.heap.size hg (zo zG102)))); clear HB; obtain ⟨HB, BK225, GW225, GE225⟩ := n_; clear hb hbox hg; obtain ⟨hcz13_0, hcz13_1, hcz13_2, hcz13_3, hcz13_4, hfz13_0, hfz13_1, hfz13_2, hfz13_3, hfz13_4⟩ := zB5 BK225.out) | ((with_reducible refine gate_callee (f := 87) rfl ?_); refine goesL_ (some 5) rfl rfl Try.func87 zG130 rfl #[.string a0_0] rfl zG93 ?_; (with_reducible refine (impl_NameOK.calls k a0_0 true _ A2.out).mono ?_); rintro e w' ⟨rfl, ⟨nd, rfl⟩⟩; refine ⟨_, rfl, ?_⟩) | (go_at_call 88; (with_reducible refine (impl_within.calls a0_1 0 10080 true _ A4.out).mono ?_); rintro e w' ⟨rfl, ⟨nd, rfl⟩⟩) | (go_at_call 88; (with_reducible refine (impl_within.calls a0_2 0 10080 true _ A6.out).mono ?_); rintro e w' ⟨rfl, ⟨nd, rfl⟩⟩) | (go_at_call 88; (with_reducible refine (impl_within.calls a0_3 0 1000 true _ A8.out).mono ?_); rintro e w' ⟨rfl, ⟨nd, rfl⟩⟩) | (go_at_call 138; (with_reducible refine (impl_areNames.calls k _ _ l0_4 t230 _ ?side1 ?side2 A11.out).mono ?_); (case side1 => repeat (first | exact (zah HR0_4.out zK222) | (with_reducible refine zaa ?_ _) | (with_reducible refine zab ?_ _) | (with_reducible refine zac ?_))); (case side2 => exact HC0_4.out); rintro e w14 ⟨rfl, hb⟩; have n_ := zA_ (za (zp (g := gb225) (o := .cells #[.string a0_0, .int .i64 a0_1, .int .i64 a0_2, .int .i64 a0_3, .slice A0_4 l0_4.length c0_4] 72 (0, 0)) (by (with_reducible repeat (first | refine zd ?_ _ | refine zg ?_ | refine ze ?_ _)); exact BK225.out) hb)) (za (zr zK222 hb)); clear BK225 HB; obtain ⟨BK225, HB⟩ := n_; (try clear hb)))
 go_ret
 exact zH31
end Go.Proofs.Ytojncbpeeboooaa.Y
