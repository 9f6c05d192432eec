-- squeezed
-- made by pp.py (wip/tools) out of the translation; Lean checks it
import Derived.Test.YtnkceaibkfbeaaaE0
import Derived.Test.YtnkceaibkfbeaaaE6
namespace Go.Proofs.Ytnkceaibkfbeaaa.E
open Go.RowKit Go.Proofs.YtnkceaibkfbeaaaW.PrintWords Go.Proofs.YtnkceaibkfbeaaaW.PrintLast Go.Proofs.YtnkceaibkfbeaaaW.PrintMore
attribute [local go_sem] max2_int min2_int max_two min_two max_three min_three max_four min_four   -- for this text's walks alone
set_option linter.unusedVariables false
set_option linter.unusedSimpArgs false


/-! ### spec_l00Word: function 64 -/
mutual
def spec_l00Word.l0 : Nat → ByteArray → Int → Int → Option (Int)
 | 0, _, _, _ => none
 | k + 1, x0, x1, x5 => if x5 < (x0.size : Int) then ((spec_l00Letter.f k x0 x5).bind fun t162 => (if t162 = 0 then (if x5 > x1 then (if 0 ≤ x5 then (if (bt x0 x5) ≥ 48 then (spec_l00Word.j1 k x0 x1 x5 t162 (decide ((bt x0 x5) ≤ 57))) else (spec_l00Word.j1 k x0 x1 x5 t162 false)) else (none)) else (spec_l00Word.j1 k x0 x1 x5 t162 false)) else (spec_l00Word.j1 k x0 x1 x5 t162 false))) else (some (wrap64 (x5 - x1)))
def spec_l00Word.j1 : Nat → ByteArray → Int → Int → Int → Bool → Option (Int)
 | 0, _, _, _, _, _ => none
 | k + 1, x0, x1, x5, x6, x33 => if x33 = true then (if 1 = 0 then (some (wrap64 (x5 - x1))) else (spec_l00Word.l0 k x0 x1 (wrap64 (x5 + 1)))) else (if x6 = 0 then (some (wrap64 (x5 - x1))) else (spec_l00Word.l0 k x0 x1 (wrap64 (x5 + x6))))
end
def spec_l00Word.f (k : Nat) (a0 : ByteArray) (a1 : Int) : Option (Int) := spec_l00Word.l0 k a0 a1 a1
theorem spec_l00Word.mono_l : ∀ k, (∀ y0 y1 y2, LeO (spec_l00Word.l0 k y0 y1 y2) (spec_l00Word.l0 (k + 1) y0 y1 y2)) ∧ (∀ y0 y1 y2 y3 y4, LeO (spec_l00Word.j1 k y0 y1 y2 y3 y4) (spec_l00Word.j1 (k + 1) y0 y1 y2 y3 y4))
 | 0 => ⟨fun _ _ _ r h => by simp [spec_l00Word.l0] at h, fun _ _ _ _ _ r h => by simp [spec_l00Word.j1] at h⟩
 | k + 1 => by
  obtain ⟨ih0, ih1⟩ := spec_l00Word.mono_l k
  refine ⟨?_, ?_⟩
  ·intro y0 y1 y2
   unfold spec_l00Word.l0
   repeat' first
   | (with_reducible exact ih0 _ _ _)
   | (with_reducible exact ih1 _ _ _ _ _)
   | (with_reducible exact spec_l00Letter.mono _ _ _)
   | (with_reducible exact LeO.refl _)
   | (with_reducible exact LeO.none _)
   | (with_reducible refine LeO.ite ?_ ?_)
   | (with_reducible refine LeO.bind ?_ (fun _ => ?_))
   | exact ih0 _ _ _
   | exact ih1 _ _ _ _ _
   | exact spec_l00Letter.mono _ _ _
   | exact LeO.none _
   | refine LeO.ite ?_ ?_
   | refine LeO.bind ?_ (fun _ => ?_)
  ·intro y0 y1 y2 y3 y4
   unfold spec_l00Word.j1
   repeat' first
   | (with_reducible exact ih0 _ _ _)
   | (with_reducible exact ih1 _ _ _ _ _)
   | (with_reducible exact spec_l00Letter.mono _ _ _)
   | (with_reducible exact LeO.refl _)
   | (with_reducible exact LeO.none _)
   | (with_reducible refine LeO.ite ?_ ?_)
   | (with_reducible refine LeO.bind ?_ (fun _ => ?_))
   | exact ih0 _ _ _
   | exact ih1 _ _ _ _ _
   | exact spec_l00Letter.mono _ _ _
   | exact LeO.none _
   | refine LeO.ite ?_ ?_
   | refine LeO.bind ?_ (fun _ => ?_)
theorem spec_l00Word.mono : ∀ a0 a1 k, LeO (spec_l00Word.f k a0 a1) (spec_l00Word.f (k + 1) a0 a1) := by
 intro a0 a1 k
 obtain ⟨ih0, ih1⟩ := spec_l00Word.mono_l k
 unfold spec_l00Word.f
 repeat' first
   | (with_reducible exact ih0 _ _ _)
   | (with_reducible exact ih1 _ _ _ _ _)
   | (with_reducible exact spec_l00Letter.mono _ _ _)
   | (with_reducible exact LeO.refl _)
   | (with_reducible exact LeO.none _)
   | (with_reducible refine LeO.ite ?_ ?_)
   | (with_reducible refine LeO.bind ?_ (fun _ => ?_))
   | exact ih0 _ _ _
   | exact ih1 _ _ _ _ _
   | exact spec_l00Letter.mono _ _ _
   | exact LeO.none _
   | refine LeO.ite ?_ ?_
   | refine LeO.bind ?_ (fun _ => ?_)
set_option maxHeartbeats 64000000 in
set_option maxRecDepth 100000 in
theorem spec_l00Word.calls (k : Nat) (a0 : ByteArray) (a1 : Int) (r : Int) (w : World) (h : spec_l00Word.f k a0 a1 = some r) :
  Calls Try.prog 64 #[.string a0, .int .i64 a1] w fun e w' => e = .returned (.int .i64 r) ∧ Drawn0 w w' := by
 have H : (spec_l00Word.l0 k a0 a1 a1) = some r := h
 clear h
 have H' := za H
 clear H
 go_enter Try.func64, Try.ntmps64
 go_wp2
 go_loopg [5] k (fun kq v5 w' => ∃ (x5_1 : Int), v5 = .int .i64 x5_1 ∧ Aside0 (spec_l00Word.l0 kq a0 a1 x5_1 = some r) ∧ Aside0 (kq ≤ k) ∧ Drawn0 w w')
 case atStart => exact ⟨(a1), zG82, H', ⟨Nat.le_refl _⟩, zH77⟩
 case round =>
  clear H'
  obtain ⟨x5_1, rfl, HA, HK1, ⟨m1, rfl⟩⟩ := hrel
  cases gk with
  | zero => exact absurd HA.out (by simp [spec_l00Word.l0])
  | succ k1 =>
   have H := HA.out
   clear HA
   simp only [spec_l00Word.l0] at H
   by_cases c3 : x5_1 < (a0.size : Int)
   rotate_left
   ·rw [if_neg c3] at H
    have c3b0 := decide_eq_false c3
    clear c3
    obtain rfl := Option.some.inj H
    go_wp2
    go_ret
    exact zH49

   rw [if_pos c3] at H
   have c3b0 := decide_eq_true c3
   clear c3
   replace H := Option.bind_eq_some_iff.mp H
   obtain ⟨t162, A40, H⟩ := H
   replace H : (if t162 = 0 then (if x5_1 > a1 then (if 0 ≤ x5_1 then (if (bt a0 x5_1) ≥ 48 then (spec_l00Word.j1 k1 a0 a1 x5_1 t162 (decide ((bt a0 x5_1) ≤ 57))) else (spec_l00Word.j1 k1 a0 a1 x5_1 t162 false)) else (none)) else (spec_l00Word.j1 k1 a0 a1 x5_1 t162 false)) else (spec_l00Word.j1 k1 a0 a1 x5_1 t162 false)) = some r := H
   obtain ⟨A4, HC5⟩ := zD2 A40 H
   clear A40 H
   go_upto_region 4 with (first | ((with_reducible refine gate_callee (f := 65) rfl ?_); refine goesL_ (some 14) rfl rfl Try.func65 zG83 rfl #[.string a0, .int .i64 x5_1] rfl zG54 ?_; (with_reducible refine (spec_l00Letter.calls k1 a0 x5_1 t162 _ A4.out).mono ?_); rintro e w' ⟨rfl, ⟨nd, rfl⟩⟩; refine ⟨_, rfl, ?_⟩))
   (try simp only [Act.put, List.setIfInBounds_toArray, List.set_cons_zero, List.set_cons_succ])
   go_cut [33] (fun v33 wc => ∃ (kq : Nat) (x33_4 : Bool), v33 = .bool x33_4 ∧ Aside0 (spec_l00Word.j1 kq a0 a1 x5_1 t162 x33_4 = some r) ∧ Aside0 (kq ≤ k1) ∧ Drawn0 w wc)
   case first =>
    have H := HC5.out
    clear HC5
    by_cases c6 : t162 = 0
    rotate_left
    ·rw [if_neg c6] at H
     have c6b0 : (t162 == 0) = false := beq_eq_false_iff_ne.mpr c6
     have c6b1 : (t162 != 0) = true := bne_iff_ne.mpr c6
     (first | rw [c6b0] | (simp only [i64_w, i32_w]; rw [c6b0]) | skip)
     have H' := za H
     clear H
     go_wp2
     go_meet
     case rel => exact ⟨_, (false), zG82, H', ⟨zH80⟩, zH77⟩
    rw [if_pos c6] at H
    have c6b0 : (t162 == 0) = true := beq_iff_eq.mpr c6
    have c6b1 : (t162 != 0) = false := bne_eq_false_iff_eq.mpr c6
    clear c6
    (first | rw [c6b0] | (simp only [i64_w, i32_w]; rw [c6b0]) | skip)
    by_cases c7 : x5_1 > a1
    rotate_left
    ·rw [if_neg c7] at H
     have c7b0 : decide (a1 < x5_1) = false := decide_eq_false c7
     clear c7
     have H' := za H
     clear H
     go_wp2
     go_meet
     case rel => exact ⟨_, (false), zG82, H', ⟨zH80⟩, zH77⟩
    rw [if_pos c7] at H
    have c7b0 : decide (a1 < x5_1) = true := decide_eq_true c7
    clear c7
    by_cases c8 : 0 ≤ x5_1
    rotate_left
    ·rw [if_neg c8] at H
     exact absurd H (by simp)
    rw [if_pos c8] at H
    have c8b0 := decide_eq_true c8
    clear c8
    by_cases c10 : (bt a0 x5_1) ≥ 48
    rotate_left
    ·rw [if_neg c10] at H
     have c10b0 : decide (48 ≤ (bt a0 x5_1)) = false := decide_eq_false c10
     clear c10
     have H' := za H
     clear H
     have p9 : 0 ≤ (x5_1 : Int) := zO
     have q9 : x5_1 < (a0.size : Int) := zO
     have hx9 := bt_at a0 x5_1
     replace p9 := eq_true p9
     replace q9 := eq_true q9
     go_wp2
     go_meet
     case rel => exact ⟨_, (false), zG82, H', ⟨zH80⟩, zH77⟩
    rw [if_pos c10] at H
    have c10b0 : decide (48 ≤ (bt a0 x5_1)) = true := decide_eq_true c10
    clear c10
    have H' := za H
    clear H
    have p9 : 0 ≤ (x5_1 : Int) := zO
    have q9 : x5_1 < (a0.size : Int) := zO
    have hx9 := bt_at a0 x5_1
    replace p9 := eq_true p9
    replace q9 := eq_true q9
    have p11 : 0 ≤ (x5_1 : Int) := zO
    have q11 : x5_1 < (a0.size : Int) := zO
    have hx11 := bt_at a0 x5_1
    replace p11 := eq_true p11
    replace q11 := eq_true q11
    go_wp2
    go_meet
    case rel => exact ⟨_, (decide ((bt a0 x5_1) ≤ 57)), zG82, H', ⟨zH80⟩, zH77⟩
   case rest =>
    clear HC5
    try clear c3
    try clear c3b0
    try clear c6
    try clear c6b0
    try clear c6b1
    try clear c7
    try clear c7b0
    try clear c8
    try clear c8b0
    try clear p9
    try clear q9
    try clear hx9
    try clear c10
    try clear c10b0
    try clear p11
    try clear q11
    try clear hx11
    try clear p11
    try clear p9
    try clear q11
    try clear q9
    obtain ⟨kq, x33_4, rfl, HA, HJ4, ⟨mc4, rfl⟩⟩ := hcut
    cases kq with
    | zero => exact absurd HA.out (by simp [spec_l00Word.j1])
    | succ kj4 =>
     have H := HA.out
     clear HA
     simp only [spec_l00Word.j1] at H
     by_cases c12 : x33_4 = true
     ·subst c12
      have H1 : (if 1 = 0 then (some (wrap64 (x5_1 - a1))) else (spec_l00Word.l0 kj4 a0 a1 (wrap64 (x5_1 + 1)))) = some r := by rw [if_pos rfl] at H; exact H
      clear H
      have H := H1
      clear H1
      by_cases c13 : 1 = 0
      ·exact absurd c13 zG84
      rw [if_neg c13] at H
      have c13b0 : (1 == 0) = false := beq_eq_false_iff_ne.mpr c13
      have c13b1 : (1 != 0) = true := bne_iff_ne.mpr c13
      have H' := za H
      clear H
      go_wp2
      go_roundg kj4
      case measure => have := HK1.out; have := HJ4.out; omega
      case rel => exact ⟨(wrap64 (x5_1 + 1)), zG82, H', ⟨zH82⟩, zH77⟩
     replace c12 := Bool.eq_false_iff.mpr c12
     subst c12
     have H1 : (if t162 = 0 then (some (wrap64 (x5_1 - a1))) else (spec_l00Word.l0 kj4 a0 a1 (wrap64 (x5_1 + t162)))) = some r := by rw [if_neg (show ¬ (false = true) by decide)] at H; exact H
     clear H
     have H := H1
     clear H1
     by_cases c14 : t162 = 0
     ·rw [if_pos c14] at H
      have c14b0 : (t162 == 0) = true := beq_iff_eq.mpr c14
      have c14b1 : (t162 != 0) = false := bne_eq_false_iff_eq.mpr c14
      clear c14
      obtain rfl := Option.some.inj H
      go_wp2
      go_ret
      exact zH49
     rw [if_neg c14] at H
     have c14b0 : (t162 == 0) = false := beq_eq_false_iff_ne.mpr c14
     have c14b1 : (t162 != 0) = true := bne_iff_ne.mpr c14
     have H' := za H
     clear H
     go_wp2
     go_roundg kj4
     case measure => have := HK1.out; have := HJ4.out; omega
     case rel => exact ⟨(wrap64 (x5_1 + t162)), zG82, H', ⟨zH82⟩, zH77⟩
/-! ### spec_NameOK: function 56 -/
def spec_NameOK.f (k : Nat) (a0 : ByteArray) : Option (Bool) := if (a0.size : Int) > 0 then (if (a0.size : Int) ≤ 40 then ((spec_l00Word.f k a0 0).bind fun t163 => (some (t163 == (a0.size : Int)))) else (some false)) else (some false)
theorem spec_NameOK.mono : ∀ a0 k, LeO (spec_NameOK.f k a0) (spec_NameOK.f (k + 1) a0) := by
 intro a0 k
 unfold spec_NameOK.f
 repeat' first
   | (with_reducible exact spec_l00Word.mono _ _ _)
   | (with_reducible exact LeO.refl _)
   | (with_reducible exact LeO.none _)
   | (with_reducible refine LeO.ite ?_ ?_)
   | (with_reducible refine LeO.bind ?_ (fun _ => ?_))
   | exact spec_l00Word.mono _ _ _
   | exact LeO.none _
   | refine LeO.ite ?_ ?_
   | refine LeO.bind ?_ (fun _ => ?_)
set_option maxHeartbeats 64000000 in
set_option maxRecDepth 100000 in
theorem spec_NameOK.calls (k : Nat) (a0 : ByteArray) (r : Bool) (w : World) (h : spec_NameOK.f k a0 = some r) :
  Calls Try.prog 56 #[.string a0] w fun e w' => e = .returned (.bool r) ∧ Drawn0 w w' := by
 have H : (if (a0.size : Int) > 0 then (if (a0.size : Int) ≤ 40 then ((spec_l00Word.f k a0 0).bind fun t163 => (some (t163 == (a0.size : Int)))) else (some false)) else (some false)) = some r := h
 clear h
 by_cases c2 : (a0.size : Int) > 0
 rotate_left
 ·rw [if_neg c2] at H
  have c2b0 : decide (0 < (a0.size : Int)) = false := decide_eq_false c2
  have c2b1 : decide (0 < a0.size) = false := decide_eq_false (by omega)
  clear c2
  obtain rfl := Option.some.inj H
  go_enter Try.func56, Try.ntmps56
  go_wp2
  go_ret
  exact zH49

 rw [if_pos c2] at H
 have c2b0 : decide (0 < (a0.size : Int)) = true := decide_eq_true c2
 have c2b1 : decide (0 < a0.size) = true := decide_eq_true (by omega)
 clear c2
 by_cases c3 : (a0.size : Int) ≤ 40
 rotate_left
 ·rw [if_neg c3] at H
  have c3b0 := decide_eq_false c3
  have c3b1 : decide (a0.size ≤ 40) = false := decide_eq_false (by omega)
  clear c3
  obtain rfl := Option.some.inj H
  go_enter Try.func56, Try.ntmps56
  go_wp2
  go_ret
  exact zH49
 rw [if_pos c3] at H
 have c3b0 := decide_eq_true c3
 have c3b1 : decide (a0.size ≤ 40) = true := decide_eq_true (by omega)
 clear c3
 replace H := Option.bind_eq_some_iff.mp H
 obtain ⟨t163, A40, H⟩ := H
 replace H : (some (t163 == (a0.size : Int))) = some r := H
 have A4 := za A40
 clear A40
 obtain rfl := Option.some.inj H
 go_enter Try.func56, Try.ntmps56
 go_wp2_with (first | (go_at_call 64; (with_reducible refine (spec_l00Word.calls k a0 0 t163 _ A4.out).mono ?_); rintro e w' ⟨rfl, ⟨nd, rfl⟩⟩))
 go_ret
 exact zH49
end Go.Proofs.Ytnkceaibkfbeaaa.E
