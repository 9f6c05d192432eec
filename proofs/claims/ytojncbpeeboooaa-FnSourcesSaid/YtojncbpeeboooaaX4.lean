-- squeezed
-- made by pp.py (wip/tools) out of the translation; Lean checks it
import Derived.Test.YtojncbpeeboooaaX0
import Derived.Test.YtojncbpeeboooaaX2
import Derived.Test.YtojncbpeeboooaaX3
namespace Go.Proofs.Ytojncbpeeboooaa.X
open Go.RowKit Go.Proofs.YtojncbpeeboooaaW.PrintWords Go.Proofs.YtojncbpeeboooaaW.PrintLast Go.Proofs.YtojncbpeeboooaaW.PrintMore
attribute [local go_sem] max2_int min2_int max_two min_two max_three min_three max_four min_four   -- for this text's walks alone
set_option linter.unusedVariables false
set_option linter.unusedSimpArgs false


/-! ### slices_Contains_string_string: function 132 -/
def slices_Contains_string_string.f (k : Nat) (l0 : List ByteArray) (a1 : ByteArray) : Option (Bool) := (slices_Index_string_string.f k l0 a1).bind fun t189 => (some (decide (t189 ≥ 0)))
theorem slices_Contains_string_string.mono : ∀ a0 a1 k, LeO (slices_Contains_string_string.f k a0 a1) (slices_Contains_string_string.f (k + 1) a0 a1) := by
 intro a0 a1 k
 unfold slices_Contains_string_string.f
 repeat' first
   | (with_reducible exact slices_Index_string_string.mono _ _ _)
   | (with_reducible exact LeO.refl _)
   | (with_reducible exact LeO.none _)
   | (with_reducible refine LeO.ite ?_ ?_)
   | (with_reducible refine LeO.bind ?_ (fun _ => ?_))
   | exact slices_Index_string_string.mono _ _ _
   | exact LeO.none _
   | refine LeO.ite ?_ ?_
   | refine LeO.bind ?_ (fun _ => ?_)
set_option maxHeartbeats 64000000 in
set_option maxRecDepth 100000 in
theorem slices_Contains_string_string.calls (k : Nat) (A0 : Option Addr) (c0 : Nat) (l0 : List ByteArray) (a1 : ByteArray) (r : Bool) (w : World) (hr0 : Kd.C Kd.string w A0 l0.length l0) (hc0 : l0.length ≤ c0) (h : slices_Contains_string_string.f k l0 a1 = some r) :
  Calls Try.prog 132 #[.slice A0 l0.length c0, .string a1] w fun e w' => e = .returned (.bool r) ∧ Drawn0 w w' := by
 obtain ⟨HR0, HC0⟩ := zD2 hr0 hc0
 clear hr0 hc0
 have H : ((slices_Index_string_string.f k l0 a1).bind fun t189 => (some (decide (t189 ≥ 0)))) = some r := h
 clear h
 replace H := Option.bind_eq_some_iff.mp H
 obtain ⟨t189, A30, H⟩ := H
 replace H : (some (decide (t189 ≥ 0))) = some r := H
 have A3 := za A30
 clear A30
 obtain rfl := Option.some.inj H
 go_enter Try.func132, Try.ntmps132
 go_wp2_with (first | ((with_reducible refine gate_callee (f := 148) rfl ?_); refine goesL_ (some 7) rfl rfl Try.func148 zG128 rfl #[.slice A0 l0.length c0, .string a1] rfl zG97 ?_; (with_reducible refine (slices_Index_string_string.calls k _ _ l0 a1 t189 _ ?side1 ?side2 A3.out).mono ?_); (case side1 => exact zH78); (case side2 => exact zH128); rintro e w' ⟨rfl, ⟨nd, rfl⟩⟩; refine ⟨_, rfl, ?_⟩))
 go_ret
 exact zH89

/-! ### impl_hasTwice_string: function 89 -/
def impl_hasTwice_string.l0 : Nat → List ByteArray → List ByteArray → Int → Int → Option (Bool)
 | 0, _, _, _, _ => none
 | k + 1, x0, x5, x6, x7 => if x7 < x6 then (if 0 ≤ x7 then (if x7 < (x5.length : Int) then (if x7 ≤ (x0.length : Int) then ((slices_Contains_string_string.f k (x0.take (x7 : Int).toNat) (rdOf ByteArray.empty x5 x7)).bind fun t192 => (if t192 = true then (some true) else (impl_hasTwice_string.l0 k x0 x5 x6 (wrap64 (x7 + 1))))) else (none)) else (none)) else (none)) else (some false)
def impl_hasTwice_string.f (k : Nat) (l0 : List ByteArray) : Option (Bool) := impl_hasTwice_string.l0 k l0 l0 (l0.length : Int) 0
theorem impl_hasTwice_string.mono_l : ∀ k, (∀ y0 y1 y2 y3, LeO (impl_hasTwice_string.l0 k y0 y1 y2 y3) (impl_hasTwice_string.l0 (k + 1) y0 y1 y2 y3))
 | 0 => fun _ _ _ _ r h => by simp [impl_hasTwice_string.l0] at h
 | k + 1 => by
  have ih0 := impl_hasTwice_string.mono_l k
  ·intro y0 y1 y2 y3
   unfold impl_hasTwice_string.l0
   repeat' first
   | (with_reducible exact ih0 _ _ _ _)
   | (with_reducible exact slices_Contains_string_string.mono _ _ _)
   | (with_reducible exact LeO.refl _)
   | (with_reducible exact LeO.none _)
   | (with_reducible refine LeO.ite ?_ ?_)
   | (with_reducible refine LeO.bind ?_ (fun _ => ?_))
   | exact ih0 _ _ _ _
   | exact slices_Contains_string_string.mono _ _ _
   | exact LeO.none _
   | refine LeO.ite ?_ ?_
   | refine LeO.bind ?_ (fun _ => ?_)
theorem impl_hasTwice_string.mono : ∀ a0 k, LeO (impl_hasTwice_string.f k a0) (impl_hasTwice_string.f (k + 1) a0) := by
 intro a0 k
 have ih0 := impl_hasTwice_string.mono_l k
 unfold impl_hasTwice_string.f
 repeat' first
   | (with_reducible exact ih0 _ _ _ _)
   | (with_reducible exact slices_Contains_string_string.mono _ _ _)
   | (with_reducible exact LeO.refl _)
   | (with_reducible exact LeO.none _)
   | (with_reducible refine LeO.ite ?_ ?_)
   | (with_reducible refine LeO.bind ?_ (fun _ => ?_))
   | exact ih0 _ _ _ _
   | exact slices_Contains_string_string.mono _ _ _
   | exact LeO.none _
   | refine LeO.ite ?_ ?_
   | refine LeO.bind ?_ (fun _ => ?_)
set_option maxHeartbeats 64000000 in
set_option maxRecDepth 100000 in
theorem impl_hasTwice_string.calls (k : Nat) (A0 : Option Addr) (c0 : Nat) (l0 : List ByteArray) (r : Bool) (w : World) (hr0 : Kd.C Kd.string w A0 l0.length l0) (hc0 : l0.length ≤ c0) (h : impl_hasTwice_string.f k l0 = some r) :
  Calls Try.prog 89 #[.slice A0 l0.length c0] w fun e w' => e = .returned (.bool r) ∧ Drawn0 w w' := by
 obtain ⟨HR0, HC0⟩ := zD2 hr0 hc0
 clear hr0 hc0
 have H : (impl_hasTwice_string.l0 k l0 l0 (l0.length : Int) 0) = some r := h
 clear h
 have H' := za H
 clear H
 go_enter Try.func89, Try.ntmps89
 go_wp2
 go_loopg [7] k (fun kq v7 w' => ∃ (x7_1 : Int), v7 = .int .i64 x7_1 ∧ Aside0 (impl_hasTwice_string.l0 kq l0 l0 (l0.length : Int) x7_1 = some r) ∧ Aside0 (kq ≤ k) ∧ Drawn0 w w')
 case atStart => exact ⟨(0), zG127, H', ⟨Nat.le_refl _⟩, zH115⟩
 case round =>
  clear H'
  obtain ⟨x7_1, rfl, HA, HK1, ⟨m1, rfl⟩⟩ := hrel
  cases gk with
  | zero => exact absurd HA.out (by simp [impl_hasTwice_string.l0])
  | succ k1 =>
   have H := HA.out
   clear HA
   simp only [impl_hasTwice_string.l0] at H
   by_cases c2 : x7_1 < (l0.length : Int)
   rotate_left
   ·rw [if_neg c2] at H
    have c2b0 := decide_eq_false c2
    clear c2
    obtain rfl := Option.some.inj H
    go_wp2
    go_ret
    exact zH89

   rw [if_pos c2] at H
   have c2b0 := decide_eq_true c2
   clear c2
   by_cases c3 : 0 ≤ x7_1
   rotate_left
   ·rw [if_neg c3] at H
    exact absurd H (by simp)
   rw [if_pos c3] at H
   have c3b0 := decide_eq_true c3
   clear c3
   by_cases c4 : x7_1 < (l0.length : Int)
   rotate_left
   ·rw [if_neg c4] at H
    exact absurd H (by simp)
   rw [if_pos c4] at H
   have c4b0 := decide_eq_true c4
   clear c4
   have c5b0 := eq_true (zO : 0 ≤ x7_1)
   by_cases c6 : x7_1 ≤ (l0.length : Int)
   rotate_left
   ·rw [if_neg c6] at H
    exact absurd H (by simp)
   rw [if_pos c6] at H
   have c6b0 := eq_true c6
   have c6b1 := decide_eq_true c6
   clear c6
   replace H := Option.bind_eq_some_iff.mp H
   obtain ⟨t192, A70, H⟩ := H
   replace H : (if t192 = true then (some true) else (impl_hasTwice_string.l0 k1 l0 l0 (l0.length : Int) (wrap64 (x7_1 + 1)))) = some r := H
   have A7 := za A70
   clear A70
   by_cases c8 : t192 = true
   ·subst c8
    have H1 : (some true) = some r := by rw [if_pos rfl] at H; exact H
    clear H
    have H := H1
    clear H1
    obtain rfl := Option.some.inj H
    have p190 : 0 ≤ (x7_1 : Int) := zO
    have q190 : x7_1 < (l0.length : Int) := zO
    obtain ⟨ad190, e190, hx190_0⟩ := zbt HR0.out x7_1 p190 q190
    cases e190
    replace p190 := eq_true p190
    replace q190 := eq_true q190
    obtain ⟨i09, hi09, _, hsz9, _⟩ := info_parts info9
    obtain ⟨hcut9, hA9, hC9⟩ := print_take_of (P := Try.prog) Value.string (⟨#[]⟩ : ByteArray) 70 9 .i64 Try.underlying70 hi09 hsz9 (some ad190) c0 l0 x7_1 zO zO HC0.out
    obtain ⟨HR191, HC191⟩ := zD2 (zbz (h1 := fun _ => rfl) (hA9 _ (zca HR0.out))) hC9
    clear hA9 hC9 hi09 hsz9
    go_wp2_with (first | ((with_reducible refine gate_callee (f := 132) rfl ?_); refine goesL_ (some 16) rfl rfl Try.func132 zG128 rfl #[.slice (some ad190) (l0.take (x7_1 : Int).toNat).length c0, .string (rdOf ByteArray.empty l0 x7_1)] rfl zK190 ?_; (with_reducible refine (slices_Contains_string_string.calls k1 _ _ (l0.take (x7_1 : Int).toNat) (rdOf ByteArray.empty l0 x7_1) true _ ?side1 ?side2 A7.out).mono ?_); (case side1 => exact zH77); (case side2 => exact HC191.out); rintro e w' ⟨rfl, ⟨nd, rfl⟩⟩; refine ⟨_, rfl, ?_⟩))
    go_ret
    exact zH89
   replace c8 := Bool.eq_false_iff.mpr c8
   subst c8
   have H1 : (impl_hasTwice_string.l0 k1 l0 l0 (l0.length : Int) (wrap64 (x7_1 + 1))) = some r := by rw [if_neg (show ¬ (false = true) by decide)] at H; exact H
   clear H
   have H := H1
   clear H1
   have H' := za H
   clear H
   have p190 : 0 ≤ (x7_1 : Int) := zO
   have q190 : x7_1 < (l0.length : Int) := zO
   obtain ⟨ad190, e190, hx190_0⟩ := zbt HR0.out x7_1 p190 q190
   cases e190
   replace p190 := eq_true p190
   replace q190 := eq_true q190
   obtain ⟨i010, hi010, _, hsz10, _⟩ := info_parts info9
   obtain ⟨hcut10, hA10, hC10⟩ := print_take_of (P := Try.prog) Value.string (⟨#[]⟩ : ByteArray) 70 9 .i64 Try.underlying70 hi010 hsz10 (some ad190) c0 l0 x7_1 zO zO HC0.out
   obtain ⟨HR191, HC191⟩ := zD2 (zbz (h1 := fun _ => rfl) (hA10 _ (zca HR0.out))) hC10
   clear hA10 hC10 hi010 hsz10
   go_wp2_with (first | ((with_reducible refine gate_callee (f := 132) rfl ?_); refine goesL_ (some 16) rfl rfl Try.func132 zG128 rfl #[.slice (some ad190) (l0.take (x7_1 : Int).toNat).length c0, .string (rdOf ByteArray.empty l0 x7_1)] rfl zK190 ?_; (with_reducible refine (slices_Contains_string_string.calls k1 _ _ (l0.take (x7_1 : Int).toNat) (rdOf ByteArray.empty l0 x7_1) false _ ?side1 ?side2 A7.out).mono ?_); (case side1 => exact zH77); (case side2 => exact HC191.out); rintro e w' ⟨rfl, ⟨nd, rfl⟩⟩; refine ⟨_, rfl, ?_⟩))
   go_roundg k1
   case measure => have := HK1.out; omega
   case rel => exact ⟨(wrap64 (x7_1 + 1)), zG127, H', ⟨zH124⟩, zH115⟩
/-! ### impl_areStocked: function 86 -/
def impl_areStocked.l0 : Nat → Int → List ByteArray → List (S124) → Int → Int → Option (Bool)
 | 0, _, _, _, _, _ => none
 | k + 1, x2, x7, x15, x16, x17 => if x17 < x16 then (if 0 ≤ x17 then (if x17 < (x15.length : Int) then ((impl_NameOK.f k ((rd_T124 x15 x17).f0)).bind fun t199 => (if t199 = true then ((impl_within.f ((rd_T124 x15 x17).f1) x2 100000).bind fun t200 => (if t200 = true then (if x7.length < 8796093022208 then (impl_areStocked.l0 k x2 (x7 ++ [(rd_T124 x15 x17).f0]) x15 x16 (wrap64 (x17 + 1))) else (none)) else (some false))) else (some false))) else (none)) else (none)) else ((impl_hasTwice_string.f k x7).bind fun t196 => (some (!t196)))
def impl_areStocked.f (k : Nat) (l0 : List (S124)) (a1 : Int) (a2 : Int) : Option (Bool) := if (l0.length : Int) > a1 then (some false) else (impl_areStocked.l0 k a2 (([] : List ByteArray)) l0 (l0.length : Int) 0)
theorem impl_areStocked.mono_l : ∀ k, (∀ y0 y1 y2 y3 y4, LeO (impl_areStocked.l0 k y0 y1 y2 y3 y4) (impl_areStocked.l0 (k + 1) y0 y1 y2 y3 y4))
 | 0 => fun _ _ _ _ _ r h => by simp [impl_areStocked.l0] at h
 | k + 1 => by
  have ih0 := impl_areStocked.mono_l k
  ·intro y0 y1 y2 y3 y4
   unfold impl_areStocked.l0
   repeat' first
   | (with_reducible exact ih0 _ _ _ _ _)
   | (with_reducible exact impl_NameOK.mono _ _)
   | (with_reducible exact impl_hasTwice_string.mono _ _)
   | (with_reducible exact LeO.refl _)
   | (with_reducible exact LeO.none _)
   | (with_reducible refine LeO.ite ?_ ?_)
   | (with_reducible refine LeO.bind ?_ (fun _ => ?_))
   | exact ih0 _ _ _ _ _
   | exact impl_NameOK.mono _ _
   | exact impl_hasTwice_string.mono _ _
   | exact LeO.none _
   | refine LeO.ite ?_ ?_
   | refine LeO.bind ?_ (fun _ => ?_)
theorem impl_areStocked.mono : ∀ a0 a1 a2 k, LeO (impl_areStocked.f k a0 a1 a2) (impl_areStocked.f (k + 1) a0 a1 a2) := by
 intro a0 a1 a2 k
 have ih0 := impl_areStocked.mono_l k
 unfold impl_areStocked.f
 repeat' first
   | (with_reducible exact ih0 _ _ _ _ _)
   | (with_reducible exact impl_NameOK.mono _ _)
   | (with_reducible exact impl_hasTwice_string.mono _ _)
   | (with_reducible exact LeO.refl _)
   | (with_reducible exact LeO.none _)
   | (with_reducible refine LeO.ite ?_ ?_)
   | (with_reducible refine LeO.bind ?_ (fun _ => ?_))
   | exact ih0 _ _ _ _ _
   | exact impl_NameOK.mono _ _
   | exact impl_hasTwice_string.mono _ _
   | exact LeO.none _
   | refine LeO.ite ?_ ?_
   | refine LeO.bind ?_ (fun _ => ?_)
set_option maxHeartbeats 64000000 in
set_option maxRecDepth 100000 in
theorem impl_areStocked.calls (k : Nat) (A0 : Option Addr) (c0 : Nat) (l0 : List (S124)) (a1 : Int) (a2 : Int) (r : Bool) (w : World) (hr0 : Kd.C k124 w A0 l0.length l0) (hc0 : l0.length ≤ c0) (h : impl_areStocked.f k l0 a1 a2 = some r) :
  Calls Try.prog 86 #[.slice A0 l0.length c0, .int .i64 a1, .int .i64 a2] w fun e w' => e = .returned (.bool r) ∧ Below w.heap.size w w' := by
 have hu124 := Try.underlying124
 obtain ⟨HR0, HC0, HB⟩ := zD3 hr0 hc0 (Below.refl w.heap.size w)
 clear hr0 hc0
 have H : (if (l0.length : Int) > a1 then (some false) else (impl_areStocked.l0 k a2 (([] : List ByteArray)) l0 (l0.length : Int) 0)) = some r := h
 clear h
 by_cases c4 : (l0.length : Int) > a1
 ·rw [if_pos c4] at H
  have c4b0 : decide (a1 < (l0.length : Int)) = true := decide_eq_true c4
  clear c4
  obtain rfl := Option.some.inj H
  go_enter Try.func86, Try.ntmps86
  go_wp2
  go_ret
  exact zH37
 rw [if_neg c4] at H
 have c4b0 : decide (a1 < (l0.length : Int)) = false := decide_eq_false c4
 clear c4
 obtain ⟨y193, hy193⟩ : ∃ y_ : List ByteArray, y_ = (([] : List ByteArray)) := ⟨_, rfl⟩
 replace H : (impl_areStocked.l0 k a2 y193 l0 (l0.length : Int) 0) = some r := by first | (rw [hy193]; with_reducible exact H) | (have H2_ := (Option.bind_some _ _).symm.trans H; rw [hy193]; with_reducible exact H2_) | (have H2_ := (Option.bind_some _ _).symm.trans H; with_reducible exact H2_) | with_reducible exact H | (rw [hy193]; exact H) | exact H
 have Ny193 := za hy193
 clear hy193
 have H' := za H
 clear H
 go_enter Try.func86, Try.ntmps86
 go_wp2_with (first | ((with_reducible refine gate_dst (N := 14) rfl ?_); refine zbp Kd.string _ 9 ?hg (N := 14) ?hd (xs := ([] : List ByteArray)) (inner := []) (ok := fun _ => True) (okp := fun _ => True) ?hr ?hp (fun _ hk => hk) trivial (Below.refl _ _) (Nat.le_refl _) (by simp) ?_; (case hd => rfl); (case hg => rfl); (case hr => exact zH119); (case hp => exact zH126); intro v194 w5 ho6 hb hg_ hnew_; clear hg_ hnew_; (first | rw [← Ny193.out] at ho6 | (simp only [Int.reduceToNat] at ho6; rw [← Ny193.out] at ho6)); have n_ := zA_ (za (zam ho6 (zq zG102))) (za (zu zG102 hb)); clear HB; obtain ⟨HO195, HB⟩ := n_; clear hb ho6))
 go_loopg [7, 17] k (fun kq v7 v17 w' => ∃ (x7_1 : List ByteArray) (x17_1 : Int), v17 = .int .i64 x17_1 ∧ Aside0 (impl_areStocked.l0 kq a2 x7_1 l0 (l0.length : Int) x17_1 = some r) ∧ Aside0 (kq ≤ k) ∧ Aside0 (Kd.R Kd.string 9 w' w.heap.size (fun _ => True) v7 x7_1) ∧ Aside0 (Below w.heap.size w w'))
 case atStart => exact ⟨(y193), (0), zG127, H', ⟨Nat.le_refl _⟩, ⟨by (with_reducible repeat (first | apply zj | apply zk | apply zl)); exact HO195.out⟩, ⟨zH98⟩⟩
 case round =>
  clear H'
  try clear c4
  try clear c4b0
  obtain ⟨x7_1, x17_1, rfl, HA, HK1, HO_7, HB⟩ := hrel
  cases gk with
  | zero => exact absurd HA.out (by simp [impl_areStocked.l0])
  | succ k1 =>
   have H := HA.out
   clear HA
   simp only [impl_areStocked.l0] at H
   by_cases c7 : x17_1 < (l0.length : Int)
   rotate_left
   ·rw [if_neg c7] at H
    have c7b0 := decide_eq_false c7
    clear c7
    replace H := Option.bind_eq_some_iff.mp H
    obtain ⟨t196, A220, H⟩ := H
    replace H : (some (!t196)) = some r := H
    have A22 := za A220
    clear A220
    obtain rfl := Option.some.inj H
    obtain ⟨Ao23, co23, eo23⟩ := zan HO_7.out
    subst eo23
    go_wp2_with (first | ((with_reducible refine gate_callee (f := 89) rfl ?_); refine goesL_ (some 39) rfl rfl Try.func89 zG128 rfl #[.slice Ao23 x7_1.length co23] rfl zG97 ?_; (with_reducible refine (impl_hasTwice_string.calls k1 _ _ x7_1 t196 _ ?side1 ?side2 A22.out).mono ?_); (case side1 => repeat (first | exact (zae HO_7.out).2.2 | (with_reducible refine zab ?_ _) | (with_reducible refine zac ?_ _) | (with_reducible refine zad ?_))); (case side2 => exact (zae HO_7.out).2.1); rintro e w' ⟨rfl, ⟨nd, rfl⟩⟩; refine ⟨_, rfl, ?_⟩))
    go_ret
    exact zH37

   rw [if_pos c7] at H
   have c7b0 := decide_eq_true c7
   clear c7
   by_cases c8 : 0 ≤ x17_1
   rotate_left
   ·rw [if_neg c8] at H
    exact absurd H (by simp)
   rw [if_pos c8] at H
   have c8b0 := decide_eq_true c8
   clear c8
   by_cases c9 : x17_1 < (l0.length : Int)
   rotate_left
   ·rw [if_neg c9] at H
    exact absurd H (by simp)
   rw [if_pos c9] at H
   have c9b0 := decide_eq_true c9
   clear c9
   replace H := Option.bind_eq_some_iff.mp H
   obtain ⟨t199, A100, H⟩ := H
   replace H : (if t199 = true then ((impl_within.f ((rd_T124 l0 x17_1).f1) a2 100000).bind fun t200 => (if t200 = true then (if x7_1.length < 8796093022208 then (impl_areStocked.l0 k1 a2 (x7_1 ++ [(rd_T124 l0 x17_1).f0]) l0 (l0.length : Int) (wrap64 (x17_1 + 1))) else (none)) else (some false))) else (some false)) = some r := H
   have A10 := za A100
   clear A100
   by_cases c11 : t199 = true
   rotate_left
   ·replace c11 := Bool.eq_false_iff.mpr c11
    subst c11
    have H1 : (some false) = some r := by rw [if_neg (show ¬ (false = true) by decide)] at H; exact H
    clear H
    have H := H1
    clear H1
    obtain rfl := Option.some.inj H
    have p197 : 0 ≤ (x17_1 : Int) := zO
    have q197 : x17_1 < (l0.length : Int) := zO
    obtain ⟨ad197, e197, hx197_0, hx197_1⟩ := at_T124 HR0.out x17_1 p197 q197
    cases e197
    replace hx197_0 := (HB.out.cell (zn w _ hx197_0)).trans hx197_0
    replace hx197_1 := (HB.out.cell (zn w _ hx197_1)).trans hx197_1
    replace p197 := eq_true p197
    replace q197 := eq_true q197
    go_wp2_with (first | ((with_reducible refine gate_dst (N := 9) rfl ?_); refine box_event ?hg (N := 9) ?hd (cs := #[.string (⟨#[]⟩ : ByteArray), .int .i64 0]) (t := 124) ?hr ?_; (case hd => rfl); (case hg => rfl); (case hr => exact zH119); intro gb198 hg w20 hbox hb; have n_ := zA_ (za (zv zK255 hb)) (zA_ (za (zu zG102 hb)) (zA_ (za (hbox)) (zA_ (zN1 w.heap.size hg (zq zG102)) (zN1 w.heap.size hg (zq zG102))))); clear HO_7 HB; obtain ⟨HO_7, HB, BK198, GW198, GE198⟩ := n_; clear hb hbox hg; obtain ⟨hcz21_0, hcz21_1, hfz21_0, hfz21_1⟩ := zB2 BK198.out) | ((with_reducible refine gate_callee (f := 87) rfl ?_); refine goesL_ (some 23) rfl rfl Try.func87 zG128 rfl #[.string ((rd_T124 l0 x17_1).f0)] rfl zG97 ?_; (with_reducible refine (impl_NameOK.calls k1 ((rd_T124 l0 x17_1).f0) false _ A10.out).mono ?_); rintro e w' ⟨rfl, ⟨nd, rfl⟩⟩; refine ⟨_, rfl, ?_⟩))
    go_ret
    exact zH27
   subst c11
   have H1 : ((impl_within.f ((rd_T124 l0 x17_1).f1) a2 100000).bind fun t200 => (if t200 = true then (if x7_1.length < 8796093022208 then (impl_areStocked.l0 k1 a2 (x7_1 ++ [(rd_T124 l0 x17_1).f0]) l0 (l0.length : Int) (wrap64 (x17_1 + 1))) else (none)) else (some false))) = some r := by rw [if_pos rfl] at H; exact H
   clear H
   have H := H1
   clear H1
   replace H := Option.bind_eq_some_iff.mp H
   obtain ⟨t200, A120, H⟩ := H
   replace H : (if t200 = true then (if x7_1.length < 8796093022208 then (impl_areStocked.l0 k1 a2 (x7_1 ++ [(rd_T124 l0 x17_1).f0]) l0 (l0.length : Int) (wrap64 (x17_1 + 1))) else (none)) else (some false)) = some r := H
   have A12 := za A120
   clear A120
   by_cases c13 : t200 = true
   rotate_left
   ·replace c13 := Bool.eq_false_iff.mpr c13
    subst c13
    have H1 : (some false) = some r := by rw [if_neg (show ¬ (false = true) by decide)] at H; exact H
    clear H
    have H := H1
    clear H1
    obtain rfl := Option.some.inj H
    have p197 : 0 ≤ (x17_1 : Int) := zO
    have q197 : x17_1 < (l0.length : Int) := zO
    obtain ⟨ad197, e197, hx197_0, hx197_1⟩ := at_T124 HR0.out x17_1 p197 q197
    cases e197
    replace hx197_0 := (HB.out.cell (zn w _ hx197_0)).trans hx197_0
    replace hx197_1 := (HB.out.cell (zn w _ hx197_1)).trans hx197_1
    replace p197 := eq_true p197
    replace q197 := eq_true q197
    go_wp2_with (first | ((with_reducible refine gate_dst (N := 9) rfl ?_); refine box_event ?hg (N := 9) ?hd (cs := #[.string (⟨#[]⟩ : ByteArray), .int .i64 0]) (t := 124) ?hr ?_; (case hd => rfl); (case hg => rfl); (case hr => exact zH119); intro gb198 hg w18 hbox hb; have n_ := zA_ (za (zv zK255 hb)) (zA_ (za (zu zG102 hb)) (zA_ (za (hbox)) (zA_ (zN1 w.heap.size hg (zq zG102)) (zN1 w.heap.size hg (zq zG102))))); clear HO_7 HB; obtain ⟨HO_7, HB, BK198, GW198, GE198⟩ := n_; clear hb hbox hg; obtain ⟨hcz19_0, hcz19_1, hfz19_0, hfz19_1⟩ := zB2 BK198.out) | ((with_reducible refine gate_callee (f := 87) rfl ?_); refine goesL_ (some 23) rfl rfl Try.func87 zG128 rfl #[.string ((rd_T124 l0 x17_1).f0)] rfl zG97 ?_; (with_reducible refine (impl_NameOK.calls k1 ((rd_T124 l0 x17_1).f0) true _ A10.out).mono ?_); rintro e w' ⟨rfl, ⟨nd, rfl⟩⟩; refine ⟨_, rfl, ?_⟩) | (go_at_call 88; (with_reducible refine (impl_within.calls ((rd_T124 l0 x17_1).f1) a2 100000 false _ A12.out).mono ?_); rintro e w' ⟨rfl, ⟨nd, rfl⟩⟩))
    go_ret
    exact zH27
   subst c13
   have H1 : (if x7_1.length < 8796093022208 then (impl_areStocked.l0 k1 a2 (x7_1 ++ [(rd_T124 l0 x17_1).f0]) l0 (l0.length : Int) (wrap64 (x17_1 + 1))) else (none)) = some r := by rw [if_pos rfl] at H; exact H
   clear H
   have H := H1
   clear H1
   by_cases c14 : x7_1.length < 8796093022208
   rotate_left
   ·rw [if_neg c14] at H
    exact absurd H (by simp)
   rw [if_pos c14] at H
   have LMc14 := za c14
   clear c14
   obtain ⟨y201, hy201⟩ : ∃ y_ : List ByteArray, y_ = (x7_1 ++ [(rd_T124 l0 x17_1).f0]) := ⟨_, rfl⟩
   replace H : (impl_areStocked.l0 k1 a2 y201 l0 (l0.length : Int) (wrap64 (x17_1 + 1))) = some r := by first | (rw [hy201]; with_reducible exact H) | (have H2_ := (Option.bind_some _ _).symm.trans H; rw [hy201]; with_reducible exact H2_) | (have H2_ := (Option.bind_some _ _).symm.trans H; with_reducible exact H2_) | with_reducible exact H | (rw [hy201]; exact H) | exact H
   have Ny201 := za hy201
   clear hy201
   have H' := za H
   clear H
   have p197 : 0 ≤ (x17_1 : Int) := zO
   have q197 : x17_1 < (l0.length : Int) := zO
   obtain ⟨ad197, e197, hx197_0, hx197_1⟩ := at_T124 HR0.out x17_1 p197 q197
   cases e197
   replace hx197_0 := (HB.out.cell (zn w _ hx197_0)).trans hx197_0
   replace hx197_1 := (HB.out.cell (zn w _ hx197_1)).trans hx197_1
   replace p197 := eq_true p197
   replace q197 := eq_true q197
   go_wp2_with (first | ((with_reducible refine gate_dst (N := 9) rfl ?_); refine box_event ?hg (N := 9) ?hd (cs := #[.string (⟨#[]⟩ : ByteArray), .int .i64 0]) (t := 124) ?hr ?_; (case hd => rfl); (case hg => rfl); (case hr => exact zH119); intro gb198 hg w15 hbox hb; have n_ := zA_ (za (zv zK255 hb)) (zA_ (za (zu zG102 hb)) (zA_ (za (hbox)) (zA_ (zN1 w.heap.size hg (zq zG102)) (zN1 w.heap.size hg (zq zG102))))); clear HO_7 HB; obtain ⟨HO_7, HB, BK198, GW198, GE198⟩ := n_; clear hb hbox hg; obtain ⟨hcz16_0, hcz16_1, hfz16_0, hfz16_1⟩ := zB2 BK198.out) | ((with_reducible refine gate_callee (f := 87) rfl ?_); refine goesL_ (some 23) rfl rfl Try.func87 zG128 rfl #[.string ((rd_T124 l0 x17_1).f0)] rfl zG97 ?_; (with_reducible refine (impl_NameOK.calls k1 ((rd_T124 l0 x17_1).f0) true _ A10.out).mono ?_); rintro e w' ⟨rfl, ⟨nd, rfl⟩⟩; refine ⟨_, rfl, ?_⟩) | (go_at_call 88; (with_reducible refine (impl_within.calls ((rd_T124 l0 x17_1).f1) a2 100000 true _ A12.out).mono ?_); rintro e w' ⟨rfl, ⟨nd, rfl⟩⟩) | ((with_reducible refine gate_builtin (b := .append) (xs := #[.tmp 32, .tmp 35]) rfl ?_); at_builtin; refine Kd.R_append Kd.string (w0 := w) w.heap.size rfl (.tmp 32) (.tmp 35) 70 9 (.string ⟨#[]⟩) 16 rfl Try.underlying70 info9 rfl zG129 (by omega) u7 x7_1 ((rd_T124 l0 x17_1).f0) [.string ((rd_T124 l0 x17_1).f0)] (fun _ => True) (fun _ => False) rfl (by first | (go_simp; done) | (go_simp; rfl)) ?aP (fun _ hk => hk.elim) ?aF ?aO ?aB ?aS ?aL ?_; (case aP => exact rfl); (case aB => exact zK216); (case aF => exact zH121); (case aO => exact (by (with_reducible repeat (first | apply zj | apply zk | apply zl)); exact zs (zo (p := ⟨gb198, 1, none⟩) (zo (p := ⟨gb198, 0, none⟩) (zt HO_7.out BK198.out zG129) (fun _ hk => hk.2) (.string ((rd_T124 l0 x17_1).f0))) (fun _ hk => hk.2) (.int .i64 ((rd_T124 l0 x17_1).f1))) (fun _ hk => trivial))); (case aS => exact (zq zK216)); (case aL => have := LMc14.out; omega); intro v202 w17 ho hb hg hat; rw [← Ny201.out] at ho; have n_ := zA_ (za (zas (g := gb198) (o := .cells #[.string ((rd_T124 l0 x17_1).f0), .int .i64 ((rd_T124 l0 x17_1).f1)] 124 (0, 0)) (by (with_reducible repeat (first | refine zc ?_ _ | refine zd ?_ | refine zb ?_ _)); refine zw (cs := #[.string ((rd_T124 l0 x17_1).f0), .int .i64 0]) ?_ 1 _ rfl; (with_reducible repeat (first | refine zc ?_ _ | refine zd ?_ | refine zb ?_ _)); refine zw (cs := #[.string (⟨#[]⟩ : ByteArray), .int .i64 0]) ?_ 0 _ rfl; (with_reducible repeat (first | refine zc ?_ _ | refine zd ?_ | refine zb ?_ _)); exact BK198.out) hg (zbg HO_7.out BK198.out zG129))) (zA_ (za (hb)) (za (ho))); clear BK198 HB HO_7; obtain ⟨BK198, HB, HO203⟩ := n_; clear ho hb hg hat))
   go_roundg k1
   case measure => have := HK1.out; omega
   case rel => exact ⟨(y201), (wrap64 (x17_1 + 1)), zG127, H', ⟨zH124⟩, ⟨by (with_reducible repeat (first | apply zj | apply zk | apply zl)); exact HO203.out⟩, ⟨zH79⟩⟩
/-! ### impl_SourcesOK: function 26 -/
mutual
def impl_SourcesOK.j0 : Nat → List (S58) → Bool → Option (Bool)
 | 0, _, _ => none
 | k + 1, x0, x15 => if x15 = true then (some false) else (impl_SourcesOK.l0 k (([] : List ByteArray)) x0 (x0.length : Int) 0)
def impl_SourcesOK.l0 : Nat → List ByteArray → List (S58) → Int → Int → Option (Bool)
 | 0, _, _, _, _ => none
 | k + 1, x5, x17, x18, x19 => if x19 < x18 then (if 0 ≤ x19 then (if x19 < (x17.length : Int) then ((impl_NameOK.f k ((rd_T58 x17 x19).f0)).bind fun t211 => (if t211 = true then ((impl_within.f ((rd_T58 x17 x19).f1) 0 1000000).bind fun t212 => (if t212 = true then ((impl_areStocked.f k ((rd_T58 x17 x19).f2) 12 0).bind fun t213 => (if t213 = true then (if x5.length < 8796093022208 then (impl_SourcesOK.l0 k (x5 ++ [(rd_T58 x17 x19).f0]) x17 x18 (wrap64 (x19 + 1))) else (none)) else (some false))) else (some false))) else (some false))) else (none)) else (none)) else ((impl_hasTwice_string.f k x5).bind fun t208 => (some (!t208)))
end
def impl_SourcesOK.f (k : Nat) (l0 : List (S58)) (l1 : List (S124)) : Option (Bool) := if (l0.length : Int) > 6 then (impl_SourcesOK.j0 k l0 true) else ((impl_areStocked.f k l1 5 1).bind fun t204 => (impl_SourcesOK.j0 k l0 (!t204)))
theorem impl_SourcesOK.mono_l : ∀ k, (∀ y0 y1, LeO (impl_SourcesOK.j0 k y0 y1) (impl_SourcesOK.j0 (k + 1) y0 y1)) ∧ (∀ y0 y1 y2 y3, LeO (impl_SourcesOK.l0 k y0 y1 y2 y3) (impl_SourcesOK.l0 (k + 1) y0 y1 y2 y3))
 | 0 => ⟨fun _ _ r h => by simp [impl_SourcesOK.j0] at h, fun _ _ _ _ r h => by simp [impl_SourcesOK.l0] at h⟩
 | k + 1 => by
  obtain ⟨ih0, ih1⟩ := impl_SourcesOK.mono_l k
  refine ⟨?_, ?_⟩
  ·intro y0 y1
   unfold impl_SourcesOK.j0
   repeat' first
   | (with_reducible exact ih0 _ _)
   | (with_reducible exact ih1 _ _ _ _)
   | (with_reducible exact impl_NameOK.mono _ _)
   | (with_reducible exact impl_areStocked.mono _ _ _ _)
   | (with_reducible exact impl_hasTwice_string.mono _ _)
   | (with_reducible exact LeO.refl _)
   | (with_reducible exact LeO.none _)
   | (with_reducible refine LeO.ite ?_ ?_)
   | (with_reducible refine LeO.bind ?_ (fun _ => ?_))
   | exact ih0 _ _
   | exact ih1 _ _ _ _
   | exact impl_NameOK.mono _ _
   | exact impl_areStocked.mono _ _ _ _
   | exact impl_hasTwice_string.mono _ _
   | exact LeO.none _
   | refine LeO.ite ?_ ?_
   | refine LeO.bind ?_ (fun _ => ?_)
  ·intro y0 y1 y2 y3
   unfold impl_SourcesOK.l0
   repeat' first
   | (with_reducible exact ih0 _ _)
   | (with_reducible exact ih1 _ _ _ _)
   | (with_reducible exact impl_NameOK.mono _ _)
   | (with_reducible exact impl_areStocked.mono _ _ _ _)
   | (with_reducible exact impl_hasTwice_string.mono _ _)
   | (with_reducible exact LeO.refl _)
   | (with_reducible exact LeO.none _)
   | (with_reducible refine LeO.ite ?_ ?_)
   | (with_reducible refine LeO.bind ?_ (fun _ => ?_))
   | exact ih0 _ _
   | exact ih1 _ _ _ _
   | exact impl_NameOK.mono _ _
   | exact impl_areStocked.mono _ _ _ _
   | exact impl_hasTwice_string.mono _ _
   | exact LeO.none _
   | refine LeO.ite ?_ ?_
   | refine LeO.bind ?_ (fun _ => ?_)
theorem impl_SourcesOK.mono : ∀ a0 a1 k, LeO (impl_SourcesOK.f k a0 a1) (impl_SourcesOK.f (k + 1) a0 a1) := by
 intro a0 a1 k
 obtain ⟨ih0, ih1⟩ := impl_SourcesOK.mono_l k
 unfold impl_SourcesOK.f
 repeat' first
   | (with_reducible exact ih0 _ _)
   | (with_reducible exact ih1 _ _ _ _)
   | (with_reducible exact impl_NameOK.mono _ _)
   | (with_reducible exact impl_areStocked.mono _ _ _ _)
   | (with_reducible exact impl_hasTwice_string.mono _ _)
   | (with_reducible exact LeO.refl _)
   | (with_reducible exact LeO.none _)
   | (with_reducible refine LeO.ite ?_ ?_)
   | (with_reducible refine LeO.bind ?_ (fun _ => ?_))
   | exact ih0 _ _
   | exact ih1 _ _ _ _
   | exact impl_NameOK.mono _ _
   | exact impl_areStocked.mono _ _ _ _
   | exact impl_hasTwice_string.mono _ _
   | exact LeO.none _
   | refine LeO.ite ?_ ?_
   | refine LeO.bind ?_ (fun _ => ?_)
set_option maxHeartbeats 64000000 in
set_option maxRecDepth 100000 in
theorem impl_SourcesOK.calls (k : Nat) (A0 : Option Addr) (c0 : Nat) (l0 : List (S58)) (A1 : Option Addr) (c1 : Nat) (l1 : List (S124)) (r : Bool) (w : World) (hr0 : Kd.C k58 w A0 l0.length l0) (hc0 : l0.length ≤ c0) (hr1 : Kd.C k124 w A1 l1.length l1) (hc1 : l1.length ≤ c1) (h : impl_SourcesOK.f k l0 l1 = some r) :
  Calls Try.prog 26 #[.slice A0 l0.length c0, .slice A1 l1.length c1] w fun e w' => e = .returned (.bool r) ∧ Below w.heap.size w w' := by
 have hu58 := Try.underlying58
 obtain ⟨HR0, HC0, HR1, HC1, HB⟩ := zD5 hr0 hc0 hr1 hc1 (Below.refl w.heap.size w)
 clear hr0 hc0 hr1 hc1
 have H : (if (l0.length : Int) > 6 then (impl_SourcesOK.j0 k l0 true) else ((impl_areStocked.f k l1 5 1).bind fun t204 => (impl_SourcesOK.j0 k l0 (!t204)))) = some r := h
 clear h
 have HC3 := za H
 clear H
 go_enter Try.func26, Try.ntmps26
 go_upto_region 1 with (fail)
 go_cut [15] (fun v15 wc => ∃ (kq : Nat) (x15_2 : Bool), v15 = .bool x15_2 ∧ Aside0 (impl_SourcesOK.j0 kq l0 x15_2 = some r) ∧ Aside0 (kq ≤ k) ∧ Aside0 (Below w.heap.size w wc))
 case first =>
  have H := HC3.out
  clear HC3
  by_cases c4 : (l0.length : Int) > 6
  ·rw [if_pos c4] at H
   have c4b0 : decide (6 < (l0.length : Int)) = true := decide_eq_true c4
   have c4b1 : decide (6 < l0.length) = true := decide_eq_true (by omega)
   clear c4
   (first | rw [c4b0] | (simp only [i64_w, i32_w]; rw [c4b0]) | skip)
   have H' := za H
   clear H
   go_wp2
   go_meet
   case rel => exact ⟨_, (true), zG127, H', ⟨zH120⟩, ⟨zH98⟩⟩
  rw [if_neg c4] at H
  have c4b0 : decide (6 < (l0.length : Int)) = false := decide_eq_false c4
  have c4b1 : decide (6 < l0.length) = false := decide_eq_false (by omega)
  clear c4
  (first | rw [c4b0] | (simp only [i64_w, i32_w]; rw [c4b0]) | skip)
  replace H := Option.bind_eq_some_iff.mp H
  obtain ⟨t204, A50, H⟩ := H
  replace H : (impl_SourcesOK.j0 k l0 (!t204)) = some r := H
  have A5 := za A50
  clear A50
  have H' := za H
  clear H
  go_wp2_with (first | (go_at_call 86; (with_reducible refine (impl_areStocked.calls k _ _ l1 5 1 t204 _ ?side1 ?side2 A5.out).mono ?_); (case side1 => exact zH66); (case side2 => exact zH127); rintro e w6 ⟨rfl, hb⟩; replace HB := za (zu zG102 hb); (try clear hb)))
  go_meet
  case rel => exact ⟨_, (!t204), zG127, H', ⟨zH120⟩, ⟨zH98⟩⟩
 case rest =>
  clear HC3
  try clear c1
  try clear c4
  try clear c4b0
  try clear c4b1
  obtain ⟨kq, x15_2, rfl, HA, HJ2, HB⟩ := hcut
  cases kq with
  | zero => exact absurd HA.out (by simp [impl_SourcesOK.j0])
  | succ kj2 =>
   have H := HA.out
   clear HA
   simp only [impl_SourcesOK.j0] at H
   by_cases c7 : x15_2 = true
   ·subst c7
    have H1 : (some false) = some r := by rw [if_pos rfl] at H; exact H
    clear H
    have H := H1
    clear H1
    obtain rfl := Option.some.inj H
    go_wp2
    go_ret
    exact zH37
   replace c7 := Bool.eq_false_iff.mpr c7
   subst c7
   have H1 : (impl_SourcesOK.l0 kj2 (([] : List ByteArray)) l0 (l0.length : Int) 0) = some r := by rw [if_neg (show ¬ (false = true) by decide)] at H; exact H
   clear H
   have H := H1
   clear H1
   obtain ⟨y205, hy205⟩ : ∃ y_ : List ByteArray, y_ = (([] : List ByteArray)) := ⟨_, rfl⟩
   replace H : (impl_SourcesOK.l0 kj2 y205 l0 (l0.length : Int) 0) = some r := by first | (rw [hy205]; with_reducible exact H) | (have H2_ := (Option.bind_some _ _).symm.trans H; rw [hy205]; with_reducible exact H2_) | (have H2_ := (Option.bind_some _ _).symm.trans H; with_reducible exact H2_) | with_reducible exact H | (rw [hy205]; exact H) | exact H
   have Ny205 := za hy205
   clear hy205
   have H' := za H
   clear H
   go_wp2_with (first | ((with_reducible refine gate_dst (N := 16) rfl ?_); refine zbp Kd.string _ 9 ?hg (N := 16) ?hd (xs := ([] : List ByteArray)) (inner := []) (ok := fun _ => True) (okp := fun _ => True) ?hr ?hp (fun _ hk => hk) trivial (Below.refl _ _) (Nat.le_refl _) (by simp) ?_; (case hd => rfl); (case hg => rfl); (case hr => exact zH119); (case hp => exact zH126); intro v206 w8 ho9 hb hg_ hnew_; clear hg_ hnew_; (first | rw [← Ny205.out] at ho9 | (simp only [Int.reduceToNat] at ho9; rw [← Ny205.out] at ho9)); have n_ := zA_ (za (zam ho9 (zq zG102))) (za (zu zG102 hb)); clear HB; obtain ⟨HO207, HB⟩ := n_; clear hb ho9))
   go_loopg [5, 19] kj2 (fun kq v5 v19 w' => ∃ (x5_2 : List ByteArray) (x19_2 : Int), v19 = .int .i64 x19_2 ∧ Aside0 (impl_SourcesOK.l0 kq x5_2 l0 (l0.length : Int) x19_2 = some r) ∧ Aside0 (kq ≤ kj2) ∧ Aside0 (Kd.R Kd.string 9 w' w.heap.size (fun _ => True) v5 x5_2) ∧ Aside0 (Below w.heap.size w w'))
   case atStart => exact ⟨(y205), (0), zG127, H', ⟨Nat.le_refl _⟩, ⟨by (with_reducible repeat (first | apply zj | apply zk | apply zl)); exact HO207.out⟩, ⟨zH98⟩⟩
   case round =>
    clear H'
    try clear c1
    try clear c4
    try clear c4b0
    try clear c4b1
    try clear c7
    obtain ⟨x5_2, x19_2, rfl, HA, HK2, HO_5, HB⟩ := hrel
    cases gk with
    | zero => exact absurd HA.out (by simp [impl_SourcesOK.l0])
    | succ k2 =>
     have H := HA.out
     clear HA
     simp only [impl_SourcesOK.l0] at H
     by_cases c10 : x19_2 < (l0.length : Int)
     rotate_left
     ·rw [if_neg c10] at H
      have c10b0 := decide_eq_false c10
      clear c10
      replace H := Option.bind_eq_some_iff.mp H
      obtain ⟨t208, A320, H⟩ := H
      replace H : (some (!t208)) = some r := H
      have A32 := za A320
      clear A320
      obtain rfl := Option.some.inj H
      obtain ⟨Ao33, co33, eo33⟩ := zan HO_5.out
      subst eo33
      go_wp2_with (first | ((with_reducible refine gate_callee (f := 89) rfl ?_); refine goesL_ (some 46) rfl rfl Try.func89 zG128 rfl #[.slice Ao33 x5_2.length co33] rfl zG97 ?_; (with_reducible refine (impl_hasTwice_string.calls k2 _ _ x5_2 t208 _ ?side1 ?side2 A32.out).mono ?_); (case side1 => repeat (first | exact (zae HO_5.out).2.2 | (with_reducible refine zab ?_ _) | (with_reducible refine zac ?_ _) | (with_reducible refine zad ?_))); (case side2 => exact (zae HO_5.out).2.1); rintro e w' ⟨rfl, ⟨nd, rfl⟩⟩; refine ⟨_, rfl, ?_⟩))
      go_ret
      exact zH37

     rw [if_pos c10] at H
     have c10b0 := decide_eq_true c10
     clear c10
     by_cases c11 : 0 ≤ x19_2
     rotate_left
     ·rw [if_neg c11] at H
      exact absurd H (by simp)
     rw [if_pos c11] at H
     have c11b0 := decide_eq_true c11
     clear c11
     by_cases c12 : x19_2 < (l0.length : Int)
     rotate_left
     ·rw [if_neg c12] at H
      exact absurd H (by simp)
     rw [if_pos c12] at H
     have c12b0 := decide_eq_true c12
     clear c12
     replace H := Option.bind_eq_some_iff.mp H
     obtain ⟨t211, A130, H⟩ := H
     replace H : (if t211 = true then ((impl_within.f ((rd_T58 l0 x19_2).f1) 0 1000000).bind fun t212 => (if t212 = true then ((impl_areStocked.f k2 ((rd_T58 l0 x19_2).f2) 12 0).bind fun t213 => (if t213 = true then (if x5_2.length < 8796093022208 then (impl_SourcesOK.l0 k2 (x5_2 ++ [(rd_T58 l0 x19_2).f0]) l0 (l0.length : Int) (wrap64 (x19_2 + 1))) else (none)) else (some false))) else (some false))) else (some false)) = some r := H
     have A13 := za A130
     clear A130
     by_cases c14 : t211 = true
     rotate_left
     ·replace c14 := Bool.eq_false_iff.mpr c14
      subst c14
      have H1 : (some false) = some r := by rw [if_neg (show ¬ (false = true) by decide)] at H; exact H
      clear H
      have H := H1
      clear H1
      obtain rfl := Option.some.inj H
      have p209 : 0 ≤ (x19_2 : Int) := zO
      have q209 : x19_2 < (l0.length : Int) := zO
      obtain ⟨ad209, A209_2, c209_2, e209, hx209_0, hx209_1, hx209_2, hl209_2, hi209_2⟩ := at_T58 HR0.out x19_2 p209 q209
      cases e209
      replace hx209_0 := (HB.out.cell (zn w _ hx209_0)).trans hx209_0
      replace hx209_1 := (HB.out.cell (zn w _ hx209_1)).trans hx209_1
      replace hx209_2 := (HB.out.cell (zn w _ hx209_2)).trans hx209_2
      obtain ⟨HR209_2, HC209_2⟩ := zD2 hi209_2 hl209_2
      clear hi209_2 hl209_2
      replace p209 := eq_true p209
      replace q209 := eq_true q209
      go_wp2_with (first | ((with_reducible refine gate_dst (N := 7) rfl ?_); refine box_event ?hg (N := 7) ?hd (cs := #[.string (⟨#[]⟩ : ByteArray), .int .i64 0, .slice none 0 0]) (t := 58) ?hr ?_; (case hd => rfl); (case hg => rfl); (case hr => exact zH119); intro gb210 hg w30 hbox hb; have n_ := zA_ (za (zv zK252 hb)) (zA_ (za (zu zG102 hb)) (zA_ (za (hbox)) (zA_ (zN1 w.heap.size hg (zq zG102)) (zN1 w.heap.size hg (zq zG102))))); clear HO_5 HB; obtain ⟨HO_5, HB, BK210, GW210, GE210⟩ := n_; clear hb hbox hg; obtain ⟨hcz31_0, hcz31_1, hcz31_2, hfz31_0, hfz31_1, hfz31_2⟩ := zB3 BK210.out) | ((with_reducible refine gate_callee (f := 87) rfl ?_); refine goesL_ (some 25) rfl rfl Try.func87 zG128 rfl #[.string ((rd_T58 l0 x19_2).f0)] rfl zG97 ?_; (with_reducible refine (impl_NameOK.calls k2 ((rd_T58 l0 x19_2).f0) false _ A13.out).mono ?_); rintro e w' ⟨rfl, ⟨nd, rfl⟩⟩; refine ⟨_, rfl, ?_⟩))
      go_ret
      exact zH29
     subst c14
     have H1 : ((impl_within.f ((rd_T58 l0 x19_2).f1) 0 1000000).bind fun t212 => (if t212 = true then ((impl_areStocked.f k2 ((rd_T58 l0 x19_2).f2) 12 0).bind fun t213 => (if t213 = true then (if x5_2.length < 8796093022208 then (impl_SourcesOK.l0 k2 (x5_2 ++ [(rd_T58 l0 x19_2).f0]) l0 (l0.length : Int) (wrap64 (x19_2 + 1))) else (none)) else (some false))) else (some false))) = some r := by rw [if_pos rfl] at H; exact H
     clear H
     have H := H1
     clear H1
     replace H := Option.bind_eq_some_iff.mp H
     obtain ⟨t212, A150, H⟩ := H
     replace H : (if t212 = true then ((impl_areStocked.f k2 ((rd_T58 l0 x19_2).f2) 12 0).bind fun t213 => (if t213 = true then (if x5_2.length < 8796093022208 then (impl_SourcesOK.l0 k2 (x5_2 ++ [(rd_T58 l0 x19_2).f0]) l0 (l0.length : Int) (wrap64 (x19_2 + 1))) else (none)) else (some false))) else (some false)) = some r := H
     have A15 := za A150
     clear A150
     by_cases c16 : t212 = true
     rotate_left
     ·replace c16 := Bool.eq_false_iff.mpr c16
      subst c16
      have H1 : (some false) = some r := by rw [if_neg (show ¬ (false = true) by decide)] at H; exact H
      clear H
      have H := H1
      clear H1
      obtain rfl := Option.some.inj H
      have p209 : 0 ≤ (x19_2 : Int) := zO
      have q209 : x19_2 < (l0.length : Int) := zO
      obtain ⟨ad209, A209_2, c209_2, e209, hx209_0, hx209_1, hx209_2, hl209_2, hi209_2⟩ := at_T58 HR0.out x19_2 p209 q209
      cases e209
      replace hx209_0 := (HB.out.cell (zn w _ hx209_0)).trans hx209_0
      replace hx209_1 := (HB.out.cell (zn w _ hx209_1)).trans hx209_1
      replace hx209_2 := (HB.out.cell (zn w _ hx209_2)).trans hx209_2
      obtain ⟨HR209_2, HC209_2⟩ := zD2 hi209_2 hl209_2
      clear hi209_2 hl209_2
      replace p209 := eq_true p209
      replace q209 := eq_true q209
      go_wp2_with (first | ((with_reducible refine gate_dst (N := 7) rfl ?_); refine box_event ?hg (N := 7) ?hd (cs := #[.string (⟨#[]⟩ : ByteArray), .int .i64 0, .slice none 0 0]) (t := 58) ?hr ?_; (case hd => rfl); (case hg => rfl); (case hr => exact zH119); intro gb210 hg w28 hbox hb; have n_ := zA_ (za (zv zK252 hb)) (zA_ (za (zu zG102 hb)) (zA_ (za (hbox)) (zA_ (zN1 w.heap.size hg (zq zG102)) (zN1 w.heap.size hg (zq zG102))))); clear HO_5 HB; obtain ⟨HO_5, HB, BK210, GW210, GE210⟩ := n_; clear hb hbox hg; obtain ⟨hcz29_0, hcz29_1, hcz29_2, hfz29_0, hfz29_1, hfz29_2⟩ := zB3 BK210.out) | ((with_reducible refine gate_callee (f := 87) rfl ?_); refine goesL_ (some 25) rfl rfl Try.func87 zG128 rfl #[.string ((rd_T58 l0 x19_2).f0)] rfl zG97 ?_; (with_reducible refine (impl_NameOK.calls k2 ((rd_T58 l0 x19_2).f0) true _ A13.out).mono ?_); rintro e w' ⟨rfl, ⟨nd, rfl⟩⟩; refine ⟨_, rfl, ?_⟩) | (go_at_call 88; (with_reducible refine (impl_within.calls ((rd_T58 l0 x19_2).f1) 0 1000000 false _ A15.out).mono ?_); rintro e w' ⟨rfl, ⟨nd, rfl⟩⟩))
      go_ret
      exact zH29
     subst c16
     have H1 : ((impl_areStocked.f k2 ((rd_T58 l0 x19_2).f2) 12 0).bind fun t213 => (if t213 = true then (if x5_2.length < 8796093022208 then (impl_SourcesOK.l0 k2 (x5_2 ++ [(rd_T58 l0 x19_2).f0]) l0 (l0.length : Int) (wrap64 (x19_2 + 1))) else (none)) else (some false))) = some r := by rw [if_pos rfl] at H; exact H
     clear H
     have H := H1
     clear H1
     replace H := Option.bind_eq_some_iff.mp H
     obtain ⟨t213, A170, H⟩ := H
     replace H : (if t213 = true then (if x5_2.length < 8796093022208 then (impl_SourcesOK.l0 k2 (x5_2 ++ [(rd_T58 l0 x19_2).f0]) l0 (l0.length : Int) (wrap64 (x19_2 + 1))) else (none)) else (some false)) = some r := H
     have A17 := za A170
     clear A170
     by_cases c18 : t213 = true
     rotate_left
     ·replace c18 := Bool.eq_false_iff.mpr c18
      subst c18
      have H1 : (some false) = some r := by rw [if_neg (show ¬ (false = true) by decide)] at H; exact H
      clear H
      have H := H1
      clear H1
      obtain rfl := Option.some.inj H
      have p209 : 0 ≤ (x19_2 : Int) := zO
      have q209 : x19_2 < (l0.length : Int) := zO
      obtain ⟨ad209, A209_2, c209_2, e209, hx209_0, hx209_1, hx209_2, hl209_2, hi209_2⟩ := at_T58 HR0.out x19_2 p209 q209
      cases e209
      replace hx209_0 := (HB.out.cell (zn w _ hx209_0)).trans hx209_0
      replace hx209_1 := (HB.out.cell (zn w _ hx209_1)).trans hx209_1
      replace hx209_2 := (HB.out.cell (zn w _ hx209_2)).trans hx209_2
      obtain ⟨HR209_2, HC209_2⟩ := zD2 hi209_2 hl209_2
      clear hi209_2 hl209_2
      replace p209 := eq_true p209
      replace q209 := eq_true q209
      go_wp2_with (first | ((with_reducible refine gate_dst (N := 7) rfl ?_); refine box_event ?hg (N := 7) ?hd (cs := #[.string (⟨#[]⟩ : ByteArray), .int .i64 0, .slice none 0 0]) (t := 58) ?hr ?_; (case hd => rfl); (case hg => rfl); (case hr => exact zH119); intro gb210 hg w25 hbox hb; have n_ := zA_ (za (zv zK252 hb)) (zA_ (za (zu zG102 hb)) (zA_ (za (hbox)) (zA_ (zN1 w.heap.size hg (zq zG102)) (zN1 w.heap.size hg (zq zG102))))); clear HO_5 HB; obtain ⟨HO_5, HB, BK210, GW210, GE210⟩ := n_; clear hb hbox hg; obtain ⟨hcz26_0, hcz26_1, hcz26_2, hfz26_0, hfz26_1, hfz26_2⟩ := zB3 BK210.out) | ((with_reducible refine gate_callee (f := 87) rfl ?_); refine goesL_ (some 25) rfl rfl Try.func87 zG128 rfl #[.string ((rd_T58 l0 x19_2).f0)] rfl zG97 ?_; (with_reducible refine (impl_NameOK.calls k2 ((rd_T58 l0 x19_2).f0) true _ A13.out).mono ?_); rintro e w' ⟨rfl, ⟨nd, rfl⟩⟩; refine ⟨_, rfl, ?_⟩) | (go_at_call 88; (with_reducible refine (impl_within.calls ((rd_T58 l0 x19_2).f1) 0 1000000 true _ A15.out).mono ?_); rintro e w' ⟨rfl, ⟨nd, rfl⟩⟩) | (go_at_call 86; (with_reducible refine (impl_areStocked.calls k2 _ _ ((rd_T58 l0 x19_2).f2) 12 0 false _ ?side1 ?side2 A17.out).mono ?_); (case side1 => exact zH56); (case side2 => exact HC209_2.out); rintro e w27 ⟨rfl, hb⟩; have n_ := zA_ (za (zv zK151 hb)) (zA_ (za (zp (g := gb210) (o := .cells #[.string ((rd_T58 l0 x19_2).f0), .int .i64 ((rd_T58 l0 x19_2).f1), .slice A209_2 ((rd_T58 l0 x19_2).f2).length c209_2] 58 (0, 0)) zK130 hb)) (za (zu zK217 hb))); clear HO_5 BK210 HB; obtain ⟨HO_5, BK210, HB⟩ := n_; (try clear hb); (try clear hk)))
      go_ret
      exact zH29
     subst c18
     have H1 : (if x5_2.length < 8796093022208 then (impl_SourcesOK.l0 k2 (x5_2 ++ [(rd_T58 l0 x19_2).f0]) l0 (l0.length : Int) (wrap64 (x19_2 + 1))) else (none)) = some r := by rw [if_pos rfl] at H; exact H
     clear H
     have H := H1
     clear H1
     by_cases c19 : x5_2.length < 8796093022208
     rotate_left
     ·rw [if_neg c19] at H
      exact absurd H (by simp)
     rw [if_pos c19] at H
     have LMc19 := za c19
     clear c19
     obtain ⟨y214, hy214⟩ : ∃ y_ : List ByteArray, y_ = (x5_2 ++ [(rd_T58 l0 x19_2).f0]) := ⟨_, rfl⟩
     replace H : (impl_SourcesOK.l0 k2 y214 l0 (l0.length : Int) (wrap64 (x19_2 + 1))) = some r := by first | (rw [hy214]; with_reducible exact H) | (have H2_ := (Option.bind_some _ _).symm.trans H; rw [hy214]; with_reducible exact H2_) | (have H2_ := (Option.bind_some _ _).symm.trans H; with_reducible exact H2_) | with_reducible exact H | (rw [hy214]; exact H) | exact H
     have Ny214 := za hy214
     clear hy214
     have H' := za H
     clear H
     have p209 : 0 ≤ (x19_2 : Int) := zO
     have q209 : x19_2 < (l0.length : Int) := zO
     obtain ⟨ad209, A209_2, c209_2, e209, hx209_0, hx209_1, hx209_2, hl209_2, hi209_2⟩ := at_T58 HR0.out x19_2 p209 q209
     cases e209
     replace hx209_0 := (HB.out.cell (zn w _ hx209_0)).trans hx209_0
     replace hx209_1 := (HB.out.cell (zn w _ hx209_1)).trans hx209_1
     replace hx209_2 := (HB.out.cell (zn w _ hx209_2)).trans hx209_2
     obtain ⟨HR209_2, HC209_2⟩ := zD2 hi209_2 hl209_2
     clear hi209_2 hl209_2
     replace p209 := eq_true p209
     replace q209 := eq_true q209
     go_wp2_with (first | ((with_reducible refine gate_dst (N := 7) rfl ?_); refine box_event ?hg (N := 7) ?hd (cs := #[.string (⟨#[]⟩ : ByteArray), .int .i64 0, .slice none 0 0]) (t := 58) ?hr ?_; (case hd => rfl); (case hg => rfl); (case hr => exact zH119); intro gb210 hg w20 hbox hb; have n_ := zA_ (za (zv zK252 hb)) (zA_ (za (zu zG102 hb)) (zA_ (za (hbox)) (zA_ (zN1 w.heap.size hg (zq zG102)) (zN1 w.heap.size hg (zq zG102))))); clear HO_5 HB; obtain ⟨HO_5, HB, BK210, GW210, GE210⟩ := n_; clear hb hbox hg; obtain ⟨hcz21_0, hcz21_1, hcz21_2, hfz21_0, hfz21_1, hfz21_2⟩ := zB3 BK210.out) | ((with_reducible refine gate_callee (f := 87) rfl ?_); refine goesL_ (some 25) rfl rfl Try.func87 zG128 rfl #[.string ((rd_T58 l0 x19_2).f0)] rfl zG97 ?_; (with_reducible refine (impl_NameOK.calls k2 ((rd_T58 l0 x19_2).f0) true _ A13.out).mono ?_); rintro e w' ⟨rfl, ⟨nd, rfl⟩⟩; refine ⟨_, rfl, ?_⟩) | (go_at_call 88; (with_reducible refine (impl_within.calls ((rd_T58 l0 x19_2).f1) 0 1000000 true _ A15.out).mono ?_); rintro e w' ⟨rfl, ⟨nd, rfl⟩⟩) | (go_at_call 86; (with_reducible refine (impl_areStocked.calls k2 _ _ ((rd_T58 l0 x19_2).f2) 12 0 true _ ?side1 ?side2 A17.out).mono ?_); (case side1 => exact zH56); (case side2 => exact HC209_2.out); rintro e w22 ⟨rfl, hb⟩; have n_ := zA_ (za (zv zK151 hb)) (zA_ (za (zp (g := gb210) (o := .cells #[.string ((rd_T58 l0 x19_2).f0), .int .i64 ((rd_T58 l0 x19_2).f1), .slice A209_2 ((rd_T58 l0 x19_2).f2).length c209_2] 58 (0, 0)) zK130 hb)) (za (zu zK217 hb))); clear HO_5 BK210 HB; obtain ⟨HO_5, BK210, HB⟩ := n_; (try clear hb); (try clear hk); obtain ⟨hcz23_0, hcz23_1, hcz23_2, hfz23_0, hfz23_1, hfz23_2⟩ := zB3 BK210.out) | ((with_reducible refine gate_builtin (b := .append) (xs := #[.tmp 39, .tmp 42]) rfl ?_); at_builtin; refine Kd.R_append Kd.string (w0 := w) w.heap.size rfl (.tmp 39) (.tmp 42) 70 9 (.string ⟨#[]⟩) 16 rfl Try.underlying70 info9 rfl zG129 (by omega) u5 x5_2 ((rd_T58 l0 x19_2).f0) [.string ((rd_T58 l0 x19_2).f0)] (fun _ => True) (fun _ => False) rfl rfl ?aP (fun _ hk => hk.elim) ?aF ?aO ?aB ?aS ?aL ?_; (case aP => exact rfl); (case aB => exact zK217); (case aF => exact zH121); (case aO => exact zK252); (case aS => exact (zq zK217)); (case aL => have := LMc19.out; omega); intro v215 w24 ho hb hg hat; rw [← Ny214.out] at ho; have n_ := zA_ (za (zas (g := gb210) (o := .cells #[.string ((rd_T58 l0 x19_2).f0), .int .i64 ((rd_T58 l0 x19_2).f1), .slice A209_2 ((rd_T58 l0 x19_2).f2).length c209_2] 58 (0, 0)) (by (with_reducible repeat (first | refine zc ?_ _ | refine zd ?_ | refine zb ?_ _)); exact BK210.out) hg (zbg HO_5.out BK210.out zG129))) (zA_ (za (hb)) (za (ho))); clear BK210 HB HO_5; obtain ⟨BK210, HB, HO216⟩ := n_; clear ho hb hg hat))
     go_roundg k2
     case measure => have := HJ2.out; have := HK2.out; omega
     case rel => exact ⟨(y214), (wrap64 (x19_2 + 1)), zG127, H', ⟨by have := HJ2.out; have := HK2.out; omega⟩, ⟨by (with_reducible repeat (first | apply zj | apply zk | apply zl)); exact HO216.out⟩, ⟨zH80⟩⟩
/-! ### impl_Source: function 78 -/
def impl_Source.f (l0 : List (S58)) : Option (Bool) := some (decide ((l0.length : Int) ≤ 4096))
set_option maxHeartbeats 64000000 in
set_option maxRecDepth 100000 in
theorem impl_Source.calls (A0 : Option Addr) (c0 : Nat) (l0 : List (S58)) (r : Bool) (w : World) (hr0 : Kd.C k58 w A0 l0.length l0) (hc0 : l0.length ≤ c0) (h : impl_Source.f l0 = some r) :
  Calls Try.prog 78 #[.slice A0 l0.length c0] w fun e w' => e = .returned (.bool r) ∧ Drawn0 w w' := by
 obtain ⟨HR0, HC0⟩ := zD2 hr0 hc0
 clear hr0 hc0
 have H : (some (decide ((l0.length : Int) ≤ 4096))) = some r := h
 clear h
 obtain rfl := Option.some.inj H
 go_enter Try.func78, Try.ntmps78
 go_wp2
 go_ret
 exact zH89

/-! ### impl_Stocked_79: function 79 -/
def impl_Stocked_79.f (l0 : List (S124)) : Option (Bool) := some (decide ((l0.length : Int) ≤ 4096))
set_option maxHeartbeats 64000000 in
set_option maxRecDepth 100000 in
theorem impl_Stocked_79.calls (A0 : Option Addr) (c0 : Nat) (l0 : List (S124)) (r : Bool) (w : World) (hr0 : Kd.C k124 w A0 l0.length l0) (hc0 : l0.length ≤ c0) (h : impl_Stocked_79.f l0 = some r) :
  Calls Try.prog 79 #[.slice A0 l0.length c0] w fun e w' => e = .returned (.bool r) ∧ Drawn0 w w' := by
 obtain ⟨HR0, HC0⟩ := zD2 hr0 hc0
 clear hr0 hc0
 have H : (some (decide ((l0.length : Int) ≤ 4096))) = some r := h
 clear h
 obtain rfl := Option.some.inj H
 go_enter Try.func79, Try.ntmps79
 go_wp2
 go_ret
 exact zH89

/-! ### impl_Source_gives_1: function 126 -/
def impl_Source_gives_1.f (a0_0 : ByteArray) (a0_1 : Int) (a1_0 : ByteArray) (a1_1 : Int) : Option (Bool) := if a0_0.toList = a1_0.toList then (some (decide (a0_1 ≥ a1_1))) else (some false)
set_option maxHeartbeats 64000000 in
set_option maxRecDepth 100000 in
theorem impl_Source_gives_1.calls (a0_0 : ByteArray) (a0_1 : Int) (gc1_0 : Nat) (a1_0 : ByteArray) (a1_1 : Int) (r : Bool) (w : World) (hk1_0 : w.heap[gc1_0]? = some (.cells #[.string a1_0, .int .i64 a1_1] 124 (0, 0))) (h : impl_Source_gives_1.f a0_0 a0_1 a1_0 a1_1 = some r) :
  Calls Try.prog 126 #[.agg #[.string a0_0, .int .i64 a0_1], .pointer (some ⟨gc1_0, 0, none⟩)] w fun e w' => e = .returned (.bool r) ∧ Below w.heap.size w w' := by
 have hu124 := Try.underlying124
 obtain ⟨BK1, HB⟩ := zD2 hk1_0 (Below.refl w.heap.size w)
 clear hk1_0
 have H : (if a0_0.toList = a1_0.toList then (some (decide (a0_1 ≥ a1_1))) else (some false)) = some r := h
 clear h
 by_cases c3 : a0_0.toList = a1_0.toList
 rotate_left
 ·rw [if_neg c3] at H
  have c3b0 : (a0_0.toList == a1_0.toList) = false := beq_eq_false_iff_ne.mpr c3
  have c3b1 : (a0_0.toList != a1_0.toList) = true := bne_iff_ne.mpr c3
  obtain rfl := Option.some.inj H
  go_enter Try.func126, Try.ntmps126
  go_wp2_with (first | ((with_reducible refine gate_dst (N := 2) rfl ?_); refine box_event ?hg (N := 2) ?hd (cs := #[.string a0_0, .int .i64 a0_1]) (t := 124) ?hr ?_; (case hd => rfl); (case hg => rfl); (case hr => exact zH119); intro gb217 hg w8 hbox hb; have n_ := zA_ (za (zp (g := gc1_0) (o := .cells #[.string a1_0, .int .i64 a1_1] 124 (0, 0)) zG114 hb)) (zA_ (za (zu zK223 hb)) (zA_ (za (hbox)) (zA_ (zN1 w.heap.size hg (zq zK223)) (zA_ (zN1 w.heap.size hg (zq zK223)) (zN2 hg (zz (g := gc1_0) (o := .cells #[.string a1_0, .int .i64 a1_1] 124 (0, 0)) zG114)))))); clear BK1 HB; obtain ⟨BK1, HB, BK217, GW217, GE217, NB1_217, NB217_1⟩ := n_; clear hb hbox hg; have hnb9 := NB217_1.out; have hnc9 := NB1_217.out; obtain ⟨hcz10_0, hcz10_1, hfz10_0, hfz10_1⟩ := zB2 BK217.out; obtain ⟨hcz11_0, hcz11_1, hfz11_0, hfz11_1⟩ := zB2 BK1.out))
  go_ret
  exact zH22

 rw [if_pos c3] at H
 have c3b0 : (a0_0.toList == a1_0.toList) = true := beq_iff_eq.mpr c3
 have c3b1 : (a0_0.toList != a1_0.toList) = false := bne_eq_false_iff_eq.mpr c3
 clear c3
 obtain rfl := Option.some.inj H
 go_enter Try.func126, Try.ntmps126
 go_wp2_with (first | ((with_reducible refine gate_dst (N := 2) rfl ?_); refine box_event ?hg (N := 2) ?hd (cs := #[.string a0_0, .int .i64 a0_1]) (t := 124) ?hr ?_; (case hd => rfl); (case hg => rfl); (case hr => exact zH119); intro gb217 hg w4 hbox hb; have n_ := zA_ (za (zp (g := gc1_0) (o := .cells #[.string a1_0, .int .i64 a1_1] 124 (0, 0)) zG114 hb)) (zA_ (za (zu zK223 hb)) (zA_ (za (hbox)) (zA_ (zN1 w.heap.size hg (zq zK223)) (zA_ (zN1 w.heap.size hg (zq zK223)) (zN2 hg (zz (g := gc1_0) (o := .cells #[.string a1_0, .int .i64 a1_1] 124 (0, 0)) zG114)))))); clear BK1 HB; obtain ⟨BK1, HB, BK217, GW217, GE217, NB1_217, NB217_1⟩ := n_; clear hb hbox hg; have hnb5 := NB217_1.out; have hnc5 := NB1_217.out; obtain ⟨hcz6_0, hcz6_1, hfz6_0, hfz6_1⟩ := zB2 BK217.out; obtain ⟨hcz7_0, hcz7_1, hfz7_0, hfz7_1⟩ := zB2 BK1.out))
 go_ret
 exact zH22
end Go.Proofs.Ytojncbpeeboooaa.X
