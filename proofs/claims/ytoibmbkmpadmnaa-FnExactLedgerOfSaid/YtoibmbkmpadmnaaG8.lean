-- squeezed
-- made by pp.py (wip/tools) out of the translation; Lean checks it
import Derived.Test.YtoibmbkmpadmnaaG0
import Derived.Test.YtoibmbkmpadmnaaG6
import Derived.Test.YtoibmbkmpadmnaaG7
namespace Go.Proofs.Ytoibmbkmpadmnaa.G
open Go.RowKit Go.Proofs.YtoibmbkmpadmnaaW.PrintWords Go.Proofs.YtoibmbkmpadmnaaW.PrintLast Go.Proofs.YtoibmbkmpadmnaaW.PrintMore
attribute [local go_sem] max2_int min2_int max_two min_two max_three min_three max_four min_four   -- for this text's walks alone
set_option linter.unusedVariables false
set_option linter.unusedSimpArgs false

abbrev q8a := @blk_cell
/-! ### spec_l00Word: function 84 -/
mutual
def spec_l00Word.l0 : Nat → ByteArray → Int → Int → Option (Int)
 | 0, _, _, _ => none
 | k + 1, x0, x1, x5 => if x5 < (x0.size : Int) then ((spec_l00Letter.f k x0 x5).bind fun t140 => (if t140 = 0 then (if x5 > x1 then (if 0 ≤ x5 then (if (bt x0 x5) ≥ 48 then (spec_l00Word.j1 k x0 x1 x5 t140 (decide ((bt x0 x5) ≤ 57))) else (spec_l00Word.j1 k x0 x1 x5 t140 false)) else (none)) else (spec_l00Word.j1 k x0 x1 x5 t140 false)) else (spec_l00Word.j1 k x0 x1 x5 t140 false))) else (some (wrap64 (x5 - x1)))
def spec_l00Word.j1 : Nat → ByteArray → Int → Int → Int → Bool → Option (Int)
 | 0, _, _, _, _, _ => none
 | k + 1, x0, x1, x5, x6, x33 => if x33 = true then (if 1 = 0 then (some (wrap64 (x5 - x1))) else (spec_l00Word.l0 k x0 x1 (wrap64 (x5 + 1)))) else (if x6 = 0 then (some (wrap64 (x5 - x1))) else (spec_l00Word.l0 k x0 x1 (wrap64 (x5 + x6))))
end
def spec_l00Word.f (k : Nat) (a0 : ByteArray) (a1 : Int) : Option (Int) := spec_l00Word.l0 k a0 a1 a1
theorem spec_l00Word.mono_l : ∀ k, (∀ y0 y1 y2, LeO (spec_l00Word.l0 k y0 y1 y2) (spec_l00Word.l0 (k + 1) y0 y1 y2)) ∧ (∀ y0 y1 y2 y3 y4, LeO (spec_l00Word.j1 k y0 y1 y2 y3 y4) (spec_l00Word.j1 (k + 1) y0 y1 y2 y3 y4))
 | 0 => ⟨fun _ _ _ r h => by simp [spec_l00Word.l0] at h, fun _ _ _ _ _ r h => by simp [spec_l00Word.j1] at h⟩
 | k + 1 => by
  obtain ⟨ih0, ih1⟩ := spec_l00Word.mono_l k
  refine ⟨?_, ?_⟩
  ·intro y0 y1 y2
   unfold spec_l00Word.l0
   repeat' first
   | (with_reducible exact ih0 _ _ _)
   | (with_reducible exact ih1 _ _ _ _ _)
   | (with_reducible exact spec_l00Letter.mono _ _ _)
   | (with_reducible exact LeO.refl _)
   | (with_reducible exact LeO.none _)
   | (with_reducible refine LeO.ite ?_ ?_)
   | (with_reducible refine LeO.bind ?_ (fun _ => ?_))
   | exact ih0 _ _ _
   | exact ih1 _ _ _ _ _
   | exact spec_l00Letter.mono _ _ _
   | exact LeO.none _
   | refine LeO.ite ?_ ?_
   | refine LeO.bind ?_ (fun _ => ?_)
  ·intro y0 y1 y2 y3 y4
   unfold spec_l00Word.j1
   repeat' first
   | (with_reducible exact ih0 _ _ _)
   | (with_reducible exact ih1 _ _ _ _ _)
   | (with_reducible exact spec_l00Letter.mono _ _ _)
   | (with_reducible exact LeO.refl _)
   | (with_reducible exact LeO.none _)
   | (with_reducible refine LeO.ite ?_ ?_)
   | (with_reducible refine LeO.bind ?_ (fun _ => ?_))
   | exact ih0 _ _ _
   | exact ih1 _ _ _ _ _
   | exact spec_l00Letter.mono _ _ _
   | exact LeO.none _
   | refine LeO.ite ?_ ?_
   | refine LeO.bind ?_ (fun _ => ?_)
theorem spec_l00Word.mono : ∀ a0 a1 k, LeO (spec_l00Word.f k a0 a1) (spec_l00Word.f (k + 1) a0 a1) := by
 intro a0 a1 k
 obtain ⟨ih0, ih1⟩ := spec_l00Word.mono_l k
 unfold spec_l00Word.f
 repeat' first
   | (with_reducible exact ih0 _ _ _)
   | (with_reducible exact ih1 _ _ _ _ _)
   | (with_reducible exact spec_l00Letter.mono _ _ _)
   | (with_reducible exact LeO.refl _)
   | (with_reducible exact LeO.none _)
   | (with_reducible refine LeO.ite ?_ ?_)
   | (with_reducible refine LeO.bind ?_ (fun _ => ?_))
   | exact ih0 _ _ _
   | exact ih1 _ _ _ _ _
   | exact spec_l00Letter.mono _ _ _
   | exact LeO.none _
   | refine LeO.ite ?_ ?_
   | refine LeO.bind ?_ (fun _ => ?_)
set_option maxHeartbeats 64000000 in
set_option maxRecDepth 100000 in
theorem spec_l00Word.calls (k : Nat) (a0 : ByteArray) (a1 : Int) (r : Int) (w : World) (h : spec_l00Word.f k a0 a1 = some r) :
  Calls Try.prog 84 #[.string a0, .int .i64 a1] w fun e w' => e = .returned (.int .i64 r) ∧ Drawn0 w w' := by
 have H : (spec_l00Word.l0 k a0 a1 a1) = some r := h
 clear h
 have H' := zb H
 clear H
 go_enter Try.func84, Try.ntmps84
 go_wp2
 go_loopg [5] k (fun kq v5 w' => ∃ (x5_1 : Int), v5 = .int .i64 x5_1 ∧ Aside0 (spec_l00Word.l0 kq a0 a1 x5_1 = some r) ∧ Aside0 (kq ≤ k) ∧ Drawn0 w w')
 case atStart => exact ⟨(a1), zG74, H', ⟨Nat.le_refl _⟩, zH97⟩
 case round =>
  clear H'
  obtain ⟨x5_1, rfl, HA, HK1, ⟨m1, rfl⟩⟩ := hrel
  cases gk with
  | zero => exact absurd HA.out (by simp [spec_l00Word.l0])
  | succ k1 =>
   have H := HA.out
   clear HA
   simp only [spec_l00Word.l0] at H
   by_cases c3 : x5_1 < (a0.size : Int)
   rotate_left
   ·rw [if_neg c3] at H
    have c3b0 := decide_eq_false c3
    clear c3
    obtain rfl := Option.some.inj H
    go_wp2
    go_ret
    exact zH67

   rw [if_pos c3] at H
   have c3b0 := decide_eq_true c3
   clear c3
   replace H := Option.bind_eq_some_iff.mp H
   obtain ⟨t140, A40, H⟩ := H
   replace H : (if t140 = 0 then (if x5_1 > a1 then (if 0 ≤ x5_1 then (if (bt a0 x5_1) ≥ 48 then (spec_l00Word.j1 k1 a0 a1 x5_1 t140 (decide ((bt a0 x5_1) ≤ 57))) else (spec_l00Word.j1 k1 a0 a1 x5_1 t140 false)) else (none)) else (spec_l00Word.j1 k1 a0 a1 x5_1 t140 false)) else (spec_l00Word.j1 k1 a0 a1 x5_1 t140 false)) = some r := H
   obtain ⟨A4, HC5⟩ := zD2 A40 H
   clear A40 H
   go_upto_region 4 with (first | ((with_reducible refine gate_callee (f := 90) rfl ?_); refine goesL_ (some 14) rfl rfl Try.func90 zG75 rfl #[.string a0, .int .i64 x5_1] rfl zG55 ?_; (with_reducible refine (spec_l00Letter.calls k1 a0 x5_1 t140 _ A4.out).mono ?_); rintro e w' ⟨rfl, ⟨nd, rfl⟩⟩; refine ⟨_, rfl, ?_⟩))
   (try simp only [Act.put, List.setIfInBounds_toArray, List.set_cons_zero, List.set_cons_succ])
   go_cut [33] (fun v33 wc => ∃ (kq : Nat) (x33_4 : Bool), v33 = .bool x33_4 ∧ Aside0 (spec_l00Word.j1 kq a0 a1 x5_1 t140 x33_4 = some r) ∧ Aside0 (kq ≤ k1) ∧ Drawn0 w wc)
   case first =>
    have H := HC5.out
    clear HC5
    by_cases c6 : t140 = 0
    rotate_left
    ·rw [if_neg c6] at H
     have c6b0 : (t140 == 0) = false := beq_eq_false_iff_ne.mpr c6
     have c6b1 : (t140 != 0) = true := bne_iff_ne.mpr c6
     (first | rw [c6b0] | (simp only [i64_w, i32_w]; rw [c6b0]) | skip)
     have H' := zb H
     clear H
     go_wp2
     go_meet
     case rel => exact ⟨_, (false), zG74, H', ⟨zH99⟩, zH97⟩
    rw [if_pos c6] at H
    have c6b0 : (t140 == 0) = true := beq_iff_eq.mpr c6
    have c6b1 : (t140 != 0) = false := bne_eq_false_iff_eq.mpr c6
    clear c6
    (first | rw [c6b0] | (simp only [i64_w, i32_w]; rw [c6b0]) | skip)
    by_cases c7 : x5_1 > a1
    rotate_left
    ·rw [if_neg c7] at H
     have c7b0 : decide (a1 < x5_1) = false := decide_eq_false c7
     clear c7
     have H' := zb H
     clear H
     go_wp2
     go_meet
     case rel => exact ⟨_, (false), zG74, H', ⟨zH99⟩, zH97⟩
    rw [if_pos c7] at H
    have c7b0 : decide (a1 < x5_1) = true := decide_eq_true c7
    clear c7
    by_cases c8 : 0 ≤ x5_1
    rotate_left
    ·rw [if_neg c8] at H
     exact absurd H (by simp)
    rw [if_pos c8] at H
    have c8b0 := decide_eq_true c8
    clear c8
    by_cases c10 : (bt a0 x5_1) ≥ 48
    rotate_left
    ·rw [if_neg c10] at H
     have c10b0 : decide (48 ≤ (bt a0 x5_1)) = false := decide_eq_false c10
     clear c10
     have H' := zb H
     clear H
     have p9 : 0 ≤ (x5_1 : Int) := zO
     have q9 : x5_1 < (a0.size : Int) := zO
     have hx9 := bt_at a0 x5_1
     replace p9 := eq_true p9
     replace q9 := eq_true q9
     go_wp2
     go_meet
     case rel => exact ⟨_, (false), zG74, H', ⟨zH99⟩, zH97⟩
    rw [if_pos c10] at H
    have c10b0 : decide (48 ≤ (bt a0 x5_1)) = true := decide_eq_true c10
    clear c10
    have H' := zb H
    clear H
    have p9 : 0 ≤ (x5_1 : Int) := zO
    have q9 : x5_1 < (a0.size : Int) := zO
    have hx9 := bt_at a0 x5_1
    replace p9 := eq_true p9
    replace q9 := eq_true q9
    have p11 : 0 ≤ (x5_1 : Int) := zO
    have q11 : x5_1 < (a0.size : Int) := zO
    have hx11 := bt_at a0 x5_1
    replace p11 := eq_true p11
    replace q11 := eq_true q11
    go_wp2
    go_meet
    case rel => exact ⟨_, (decide ((bt a0 x5_1) ≤ 57)), zG74, H', ⟨zH99⟩, zH97⟩
   case rest =>
    clear HC5
    try clear c3
    try clear c3b0
    try clear c6
    try clear c6b0
    try clear c6b1
    try clear c7
    try clear c7b0
    try clear c8
    try clear c8b0
    try clear p9
    try clear q9
    try clear hx9
    try clear c10
    try clear c10b0
    try clear p11
    try clear q11
    try clear hx11
    try clear p11
    try clear p9
    try clear q11
    try clear q9
    obtain ⟨kq, x33_4, rfl, HA, HJ4, ⟨mc4, rfl⟩⟩ := hcut
    cases kq with
    | zero => exact absurd HA.out (by simp [spec_l00Word.j1])
    | succ kj4 =>
     have H := HA.out
     clear HA
     simp only [spec_l00Word.j1] at H
     by_cases c12 : x33_4 = true
     ·subst c12
      have H1 : (if 1 = 0 then (some (wrap64 (x5_1 - a1))) else (spec_l00Word.l0 kj4 a0 a1 (wrap64 (x5_1 + 1)))) = some r := by rw [if_pos rfl] at H; exact H
      clear H
      have H := H1
      clear H1
      by_cases c13 : 1 = 0
      ·exact absurd c13 zG76
      rw [if_neg c13] at H
      have c13b0 : (1 == 0) = false := beq_eq_false_iff_ne.mpr c13
      have c13b1 : (1 != 0) = true := bne_iff_ne.mpr c13
      have H' := zb H
      clear H
      go_wp2
      go_roundg kj4
      case measure => have := HK1.out; have := HJ4.out; omega
      case rel => exact ⟨(wrap64 (x5_1 + 1)), zG74, H', ⟨zH100⟩, zH97⟩
     replace c12 := Bool.eq_false_iff.mpr c12
     subst c12
     have H1 : (if t140 = 0 then (some (wrap64 (x5_1 - a1))) else (spec_l00Word.l0 kj4 a0 a1 (wrap64 (x5_1 + t140)))) = some r := by rw [if_neg (show ¬ (false = true) by decide)] at H; exact H
     clear H
     have H := H1
     clear H1
     by_cases c14 : t140 = 0
     ·rw [if_pos c14] at H
      have c14b0 : (t140 == 0) = true := beq_iff_eq.mpr c14
      have c14b1 : (t140 != 0) = false := bne_eq_false_iff_eq.mpr c14
      clear c14
      obtain rfl := Option.some.inj H
      go_wp2
      go_ret
      exact zH67
     rw [if_neg c14] at H
     have c14b0 : (t140 == 0) = false := beq_eq_false_iff_ne.mpr c14
     have c14b1 : (t140 != 0) = true := bne_iff_ne.mpr c14
     have H' := zb H
     clear H
     go_wp2
     go_roundg kj4
     case measure => have := HK1.out; have := HJ4.out; omega
     case rel => exact ⟨(wrap64 (x5_1 + t140)), zG74, H', ⟨zH100⟩, zH97⟩
/-! ### spec_NameOK: function 69 -/
def spec_NameOK.f (k : Nat) (a0 : ByteArray) : Option (Bool) := if (a0.size : Int) > 0 then (if (a0.size : Int) ≤ 40 then ((spec_l00Word.f k a0 0).bind fun t141 => (some (t141 == (a0.size : Int)))) else (some false)) else (some false)
theorem spec_NameOK.mono : ∀ a0 k, LeO (spec_NameOK.f k a0) (spec_NameOK.f (k + 1) a0) := by
 intro a0 k
 unfold spec_NameOK.f
 repeat' first
   | (with_reducible exact spec_l00Word.mono _ _ _)
   | (with_reducible exact LeO.refl _)
   | (with_reducible exact LeO.none _)
   | (with_reducible refine LeO.ite ?_ ?_)
   | (with_reducible refine LeO.bind ?_ (fun _ => ?_))
   | exact spec_l00Word.mono _ _ _
   | exact LeO.none _
   | refine LeO.ite ?_ ?_
   | refine LeO.bind ?_ (fun _ => ?_)
set_option maxHeartbeats 64000000 in
set_option maxRecDepth 100000 in
theorem spec_NameOK.calls (k : Nat) (a0 : ByteArray) (r : Bool) (w : World) (h : spec_NameOK.f k a0 = some r) :
  Calls Try.prog 69 #[.string a0] w fun e w' => e = .returned (.bool r) ∧ Drawn0 w w' := by
 have H : (if (a0.size : Int) > 0 then (if (a0.size : Int) ≤ 40 then ((spec_l00Word.f k a0 0).bind fun t141 => (some (t141 == (a0.size : Int)))) else (some false)) else (some false)) = some r := h
 clear h
 by_cases c2 : (a0.size : Int) > 0
 rotate_left
 ·rw [if_neg c2] at H
  have c2b0 : decide (0 < (a0.size : Int)) = false := decide_eq_false c2
  have c2b1 : decide (0 < a0.size) = false := decide_eq_false (by omega)
  clear c2
  obtain rfl := Option.some.inj H
  go_enter Try.func69, Try.ntmps69
  go_wp2
  go_ret
  exact zH67

 rw [if_pos c2] at H
 have c2b0 : decide (0 < (a0.size : Int)) = true := decide_eq_true c2
 have c2b1 : decide (0 < a0.size) = true := decide_eq_true (by omega)
 clear c2
 by_cases c3 : (a0.size : Int) ≤ 40
 rotate_left
 ·rw [if_neg c3] at H
  have c3b0 := decide_eq_false c3
  have c3b1 : decide (a0.size ≤ 40) = false := decide_eq_false (by omega)
  clear c3
  obtain rfl := Option.some.inj H
  go_enter Try.func69, Try.ntmps69
  go_wp2
  go_ret
  exact zH67
 rw [if_pos c3] at H
 have c3b0 := decide_eq_true c3
 have c3b1 : decide (a0.size ≤ 40) = true := decide_eq_true (by omega)
 clear c3
 replace H := Option.bind_eq_some_iff.mp H
 obtain ⟨t141, A40, H⟩ := H
 replace H : (some (t141 == (a0.size : Int))) = some r := H
 have A4 := zb A40
 clear A40
 obtain rfl := Option.some.inj H
 go_enter Try.func69, Try.ntmps69
 go_wp2_with (first | (go_at_call 84; (with_reducible refine (spec_l00Word.calls k a0 0 t141 _ A4.out).mono ?_); rintro e w' ⟨rfl, ⟨nd, rfl⟩⟩))
 go_ret
 exact zH67
/-! ### spec_l12Right: function 56 -/
def spec_l12Right.j0 : Nat → Bool → Int → Int → Int → Int → ByteArray → Int → Option (Bool)
 | 0, _, _, _, _, _, _, _ => none
 | k + 1, x24, x143000, x143001, x143002, x143003, x143004, x143005 => if x24 = true then (some false) else (if x143003 = 3 then (some (x143005 == 0)) else (if x143003 = 1 then ((spec_l01In.f x143005 1 1000000).bind fun t147 => (some t147)) else (if x143003 = 2 then ((spec_l01In.f x143005 1 1000000).bind fun t148 => (some t148)) else (some false))))
def spec_l12Right.f (k : Nat) (a0_0 : Int) (a0_1 : Int) (a0_2 : Int) (a0_3 : Int) (a0_4 : ByteArray) (a0_5 : Int) : Option (Bool) := (spec_l01In.f a0_0 1 9).bind fun t143 => (if t143 = true then ((spec_l01In.f a0_1 1 120).bind fun t144 => (if t144 = true then ((spec_l01In.f a0_2 0 1000000000).bind fun t145 => (if t145 = true then ((spec_NameOK.f k a0_4).bind fun t146 => (spec_l12Right.j0 k (!t146) a0_0 a0_1 a0_2 a0_3 a0_4 a0_5)) else (spec_l12Right.j0 k true a0_0 a0_1 a0_2 a0_3 a0_4 a0_5))) else (spec_l12Right.j0 k true a0_0 a0_1 a0_2 a0_3 a0_4 a0_5))) else (spec_l12Right.j0 k true a0_0 a0_1 a0_2 a0_3 a0_4 a0_5))
theorem spec_l12Right.mono_l : ∀ k, (∀ y0 y1 y2 y3 y4 y5 y6, LeO (spec_l12Right.j0 k y0 y1 y2 y3 y4 y5 y6) (spec_l12Right.j0 (k + 1) y0 y1 y2 y3 y4 y5 y6))
 | 0 => fun _ _ _ _ _ _ _ r h => by simp [spec_l12Right.j0] at h
 | k + 1 => by
  have ih0 := spec_l12Right.mono_l k
  ·intro y0 y1 y2 y3 y4 y5 y6
   unfold spec_l12Right.j0
   repeat' first
   | (with_reducible exact ih0 _ _ _ _ _ _ _)
   | (with_reducible exact spec_NameOK.mono _ _)
   | (with_reducible exact LeO.refl _)
   | (with_reducible exact LeO.none _)
   | (with_reducible refine LeO.ite ?_ ?_)
   | (with_reducible refine LeO.bind ?_ (fun _ => ?_))
   | exact ih0 _ _ _ _ _ _ _
   | exact spec_NameOK.mono _ _
   | exact LeO.none _
   | refine LeO.ite ?_ ?_
   | refine LeO.bind ?_ (fun _ => ?_)
theorem spec_l12Right.mono : ∀ a0 a1 a2 a3 a4 a5 k, LeO (spec_l12Right.f k a0 a1 a2 a3 a4 a5) (spec_l12Right.f (k + 1) a0 a1 a2 a3 a4 a5) := by
 intro a0 a1 a2 a3 a4 a5 k
 have ih0 := spec_l12Right.mono_l k
 unfold spec_l12Right.f
 repeat' first
   | (with_reducible exact ih0 _ _ _ _ _ _ _)
   | (with_reducible exact spec_NameOK.mono _ _)
   | (with_reducible exact LeO.refl _)
   | (with_reducible exact LeO.none _)
   | (with_reducible refine LeO.ite ?_ ?_)
   | (with_reducible refine LeO.bind ?_ (fun _ => ?_))
   | exact ih0 _ _ _ _ _ _ _
   | exact spec_NameOK.mono _ _
   | exact LeO.none _
   | refine LeO.ite ?_ ?_
   | refine LeO.bind ?_ (fun _ => ?_)
set_option maxHeartbeats 64000000 in
set_option maxRecDepth 100000 in
theorem spec_l12Right.calls (k : Nat) (a0_0 : Int) (a0_1 : Int) (a0_2 : Int) (a0_3 : Int) (a0_4 : ByteArray) (a0_5 : Int) (r : Bool) (w : World) (h : spec_l12Right.f k a0_0 a0_1 a0_2 a0_3 a0_4 a0_5 = some r) :
  Calls Try.prog 56 #[.agg #[.int .i64 a0_0, .int .i64 a0_1, .int .i64 a0_2, .int .i64 a0_3, .string a0_4, .int .i64 a0_5]] w fun e w' => e = .returned (.bool r) ∧ Below w.heap.size w w' := by
 have hu35 := Try.underlying35
 have HB := zb (Below.refl w.heap.size w)
 have H : ((spec_l01In.f a0_0 1 9).bind fun t143 => (if t143 = true then ((spec_l01In.f a0_1 1 120).bind fun t144 => (if t144 = true then ((spec_l01In.f a0_2 0 1000000000).bind fun t145 => (if t145 = true then ((spec_NameOK.f k a0_4).bind fun t146 => (spec_l12Right.j0 k (!t146) a0_0 a0_1 a0_2 a0_3 a0_4 a0_5)) else (spec_l12Right.j0 k true a0_0 a0_1 a0_2 a0_3 a0_4 a0_5))) else (spec_l12Right.j0 k true a0_0 a0_1 a0_2 a0_3 a0_4 a0_5))) else (spec_l12Right.j0 k true a0_0 a0_1 a0_2 a0_3 a0_4 a0_5))) = some r := h
 clear h
 have HC2 := zb H
 clear H
 go_enter Try.func56, Try.ntmps56
 go_upto_region 1 with (first | ((with_reducible refine gate_dst (N := 1) rfl ?_); refine box_event ?hg (N := 1) ?hd (cs := #[.int .i64 a0_0, .int .i64 a0_1, .int .i64 a0_2, .int .i64 a0_3, .string a0_4, .int .i64 a0_5]) (t := 35) ?hr ?_; (case hd => rfl); (case hg => rfl); (case hr => exact zH101); intro gb142 hg w3 hbox hb; have n_ := zA_ (zb (zr zG61 hb)) (zA_ (zb (hbox)) (zA_ (zN1 w.heap.size hg (zq zG61)) (zN1 w.heap.size hg (zq zG61)))); clear HB; obtain ⟨HB, BK142, GW142, GE142⟩ := n_; clear hb hbox hg))
 (try simp only [Act.put, List.setIfInBounds_toArray, List.set_cons_zero, List.set_cons_succ])
 go_cut [24] (fun v24 wc => ∃ (kq : Nat) (x24_1 : Bool), v24 = .bool x24_1 ∧ Aside0 (spec_l12Right.j0 kq x24_1 a0_0 a0_1 a0_2 a0_3 a0_4 a0_5 = some r) ∧ Aside0 (kq ≤ k) ∧ Aside0 (wc.heap[gb142]? = some (.cells #[.int .i64 a0_0, .int .i64 a0_1, .int .i64 a0_2, .int .i64 a0_3, .string a0_4, .int .i64 a0_5] 35 (0, 0))) ∧ Aside0 (Below w.heap.size w wc))
 case first =>
  have H := HC2.out
  clear HC2
  replace H := Option.bind_eq_some_iff.mp H
  obtain ⟨t143, A40, H⟩ := H
  replace H : (if t143 = true then ((spec_l01In.f a0_1 1 120).bind fun t144 => (if t144 = true then ((spec_l01In.f a0_2 0 1000000000).bind fun t145 => (if t145 = true then ((spec_NameOK.f k a0_4).bind fun t146 => (spec_l12Right.j0 k (!t146) a0_0 a0_1 a0_2 a0_3 a0_4 a0_5)) else (spec_l12Right.j0 k true a0_0 a0_1 a0_2 a0_3 a0_4 a0_5))) else (spec_l12Right.j0 k true a0_0 a0_1 a0_2 a0_3 a0_4 a0_5))) else (spec_l12Right.j0 k true a0_0 a0_1 a0_2 a0_3 a0_4 a0_5)) = some r := H
  have A4 := zb A40
  clear A40
  by_cases c5 : t143 = true
  rotate_left
  ·replace c5 := Bool.eq_false_iff.mpr c5
   subst c5
   have H1 : (spec_l12Right.j0 k true a0_0 a0_1 a0_2 a0_3 a0_4 a0_5) = some r := by rw [if_neg (show ¬ (false = true) by decide)] at H; exact H
   clear H
   have H := H1
   clear H1
   have H' := zb H
   clear H
   have hcz14_0 : w3.cell? ⟨gb142, 0, none⟩ = some (.int .i64 a0_0) := (q8a BK142.out 0).trans rfl
   have hcz14_1 : w3.cell? ⟨gb142, 1, none⟩ = some (.int .i64 a0_1) := (q8a BK142.out 1).trans rfl
   have hcz14_2 : w3.cell? ⟨gb142, 2, none⟩ = some (.int .i64 a0_2) := (q8a BK142.out 2).trans rfl
   have hcz14_3 : w3.cell? ⟨gb142, 3, none⟩ = some (.int .i64 a0_3) := (q8a BK142.out 3).trans rfl
   have hcz14_4 : w3.cell? ⟨gb142, 4, none⟩ = some (.string a0_4) := (q8a BK142.out 4).trans rfl
   have hcz14_5 : w3.cell? ⟨gb142, 5, none⟩ = some (.int .i64 a0_5) := (q8a BK142.out 5).trans rfl
   have hfz14_0 := zd BK142.out 0
   have hfz14_1 := zd BK142.out 1
   have hfz14_2 := zd BK142.out 2
   have hfz14_3 := zd BK142.out 3
   have hfz14_4 := zd BK142.out 4
   have hfz14_5 := zd BK142.out 5
   go_wp2_with (first | ((with_reducible refine gate_callee (f := 68) rfl ?_); refine goesL_ (some 5) rfl rfl Try.func68 zG75 rfl #[.int .i64 a0_0, .int .i64 1, .int .i64 9] rfl zG55 ?_; (with_reducible refine (spec_l01In.calls a0_0 1 9 false _ A4.out).mono ?_); rintro e w' ⟨rfl, ⟨nd, rfl⟩⟩; refine ⟨_, rfl, ?_⟩))
   go_meet
   case rel => exact ⟨_, (true), zG74, H', ⟨zH102⟩, ⟨zH83⟩, ⟨zH61⟩⟩
  subst c5
  have H1 : ((spec_l01In.f a0_1 1 120).bind fun t144 => (if t144 = true then ((spec_l01In.f a0_2 0 1000000000).bind fun t145 => (if t145 = true then ((spec_NameOK.f k a0_4).bind fun t146 => (spec_l12Right.j0 k (!t146) a0_0 a0_1 a0_2 a0_3 a0_4 a0_5)) else (spec_l12Right.j0 k true a0_0 a0_1 a0_2 a0_3 a0_4 a0_5))) else (spec_l12Right.j0 k true a0_0 a0_1 a0_2 a0_3 a0_4 a0_5))) = some r := by rw [if_pos rfl] at H; exact H
  clear H
  have H := H1
  clear H1
  replace H := Option.bind_eq_some_iff.mp H
  obtain ⟨t144, A60, H⟩ := H
  replace H : (if t144 = true then ((spec_l01In.f a0_2 0 1000000000).bind fun t145 => (if t145 = true then ((spec_NameOK.f k a0_4).bind fun t146 => (spec_l12Right.j0 k (!t146) a0_0 a0_1 a0_2 a0_3 a0_4 a0_5)) else (spec_l12Right.j0 k true a0_0 a0_1 a0_2 a0_3 a0_4 a0_5))) else (spec_l12Right.j0 k true a0_0 a0_1 a0_2 a0_3 a0_4 a0_5)) = some r := H
  have A6 := zb A60
  clear A60
  by_cases c7 : t144 = true
  rotate_left
  ·replace c7 := Bool.eq_false_iff.mpr c7
   subst c7
   have H1 : (spec_l12Right.j0 k true a0_0 a0_1 a0_2 a0_3 a0_4 a0_5) = some r := by rw [if_neg (show ¬ (false = true) by decide)] at H; exact H
   clear H
   have H := H1
   clear H1
   have H' := zb H
   clear H
   have hcz13_0 : w3.cell? ⟨gb142, 0, none⟩ = some (.int .i64 a0_0) := (q8a BK142.out 0).trans rfl
   have hcz13_1 : w3.cell? ⟨gb142, 1, none⟩ = some (.int .i64 a0_1) := (q8a BK142.out 1).trans rfl
   have hcz13_2 : w3.cell? ⟨gb142, 2, none⟩ = some (.int .i64 a0_2) := (q8a BK142.out 2).trans rfl
   have hcz13_3 : w3.cell? ⟨gb142, 3, none⟩ = some (.int .i64 a0_3) := (q8a BK142.out 3).trans rfl
   have hcz13_4 : w3.cell? ⟨gb142, 4, none⟩ = some (.string a0_4) := (q8a BK142.out 4).trans rfl
   have hcz13_5 : w3.cell? ⟨gb142, 5, none⟩ = some (.int .i64 a0_5) := (q8a BK142.out 5).trans rfl
   have hfz13_0 := zd BK142.out 0
   have hfz13_1 := zd BK142.out 1
   have hfz13_2 := zd BK142.out 2
   have hfz13_3 := zd BK142.out 3
   have hfz13_4 := zd BK142.out 4
   have hfz13_5 := zd BK142.out 5
   go_wp2_with (first | ((with_reducible refine gate_callee (f := 68) rfl ?_); refine goesL_ (some 5) rfl rfl Try.func68 zG75 rfl #[.int .i64 a0_0, .int .i64 1, .int .i64 9] rfl zG55 ?_; (with_reducible refine (spec_l01In.calls a0_0 1 9 true _ A4.out).mono ?_); rintro e w' ⟨rfl, ⟨nd, rfl⟩⟩; refine ⟨_, rfl, ?_⟩) | (go_at_call 68; (with_reducible refine (spec_l01In.calls a0_1 1 120 false _ A6.out).mono ?_); rintro e w' ⟨rfl, ⟨nd, rfl⟩⟩))
   go_meet
   case rel => exact ⟨_, (true), zG74, H', ⟨zH102⟩, ⟨zH83⟩, ⟨zH61⟩⟩
  subst c7
  have H1 : ((spec_l01In.f a0_2 0 1000000000).bind fun t145 => (if t145 = true then ((spec_NameOK.f k a0_4).bind fun t146 => (spec_l12Right.j0 k (!t146) a0_0 a0_1 a0_2 a0_3 a0_4 a0_5)) else (spec_l12Right.j0 k true a0_0 a0_1 a0_2 a0_3 a0_4 a0_5))) = some r := by rw [if_pos rfl] at H; exact H
  clear H
  have H := H1
  clear H1
  replace H := Option.bind_eq_some_iff.mp H
  obtain ⟨t145, A80, H⟩ := H
  replace H : (if t145 = true then ((spec_NameOK.f k a0_4).bind fun t146 => (spec_l12Right.j0 k (!t146) a0_0 a0_1 a0_2 a0_3 a0_4 a0_5)) else (spec_l12Right.j0 k true a0_0 a0_1 a0_2 a0_3 a0_4 a0_5)) = some r := H
  have A8 := zb A80
  clear A80
  by_cases c9 : t145 = true
  rotate_left
  ·replace c9 := Bool.eq_false_iff.mpr c9
   subst c9
   have H1 : (spec_l12Right.j0 k true a0_0 a0_1 a0_2 a0_3 a0_4 a0_5) = some r := by rw [if_neg (show ¬ (false = true) by decide)] at H; exact H
   clear H
   have H := H1
   clear H1
   have H' := zb H
   clear H
   have hcz12_0 : w3.cell? ⟨gb142, 0, none⟩ = some (.int .i64 a0_0) := (q8a BK142.out 0).trans rfl
   have hcz12_1 : w3.cell? ⟨gb142, 1, none⟩ = some (.int .i64 a0_1) := (q8a BK142.out 1).trans rfl
   have hcz12_2 : w3.cell? ⟨gb142, 2, none⟩ = some (.int .i64 a0_2) := (q8a BK142.out 2).trans rfl
   have hcz12_3 : w3.cell? ⟨gb142, 3, none⟩ = some (.int .i64 a0_3) := (q8a BK142.out 3).trans rfl
   have hcz12_4 : w3.cell? ⟨gb142, 4, none⟩ = some (.string a0_4) := (q8a BK142.out 4).trans rfl
   have hcz12_5 : w3.cell? ⟨gb142, 5, none⟩ = some (.int .i64 a0_5) := (q8a BK142.out 5).trans rfl
   have hfz12_0 := zd BK142.out 0
   have hfz12_1 := zd BK142.out 1
   have hfz12_2 := zd BK142.out 2
   have hfz12_3 := zd BK142.out 3
   have hfz12_4 := zd BK142.out 4
   have hfz12_5 := zd BK142.out 5
   go_wp2_with (first | ((with_reducible refine gate_callee (f := 68) rfl ?_); refine goesL_ (some 5) rfl rfl Try.func68 zG75 rfl #[.int .i64 a0_0, .int .i64 1, .int .i64 9] rfl zG55 ?_; (with_reducible refine (spec_l01In.calls a0_0 1 9 true _ A4.out).mono ?_); rintro e w' ⟨rfl, ⟨nd, rfl⟩⟩; refine ⟨_, rfl, ?_⟩) | (go_at_call 68; (with_reducible refine (spec_l01In.calls a0_1 1 120 true _ A6.out).mono ?_); rintro e w' ⟨rfl, ⟨nd, rfl⟩⟩) | (go_at_call 68; (with_reducible refine (spec_l01In.calls a0_2 0 1000000000 false _ A8.out).mono ?_); rintro e w' ⟨rfl, ⟨nd, rfl⟩⟩))
   go_meet
   case rel => exact ⟨_, (true), zG74, H', ⟨zH102⟩, ⟨zH83⟩, ⟨zH61⟩⟩
  subst c9
  have H1 : ((spec_NameOK.f k a0_4).bind fun t146 => (spec_l12Right.j0 k (!t146) a0_0 a0_1 a0_2 a0_3 a0_4 a0_5)) = some r := by rw [if_pos rfl] at H; exact H
  clear H
  have H := H1
  clear H1
  replace H := Option.bind_eq_some_iff.mp H
  obtain ⟨t146, A100, H⟩ := H
  replace H : (spec_l12Right.j0 k (!t146) a0_0 a0_1 a0_2 a0_3 a0_4 a0_5) = some r := H
  have A10 := zb A100
  clear A100
  have H' := zb H
  clear H
  have hcz11_0 : w3.cell? ⟨gb142, 0, none⟩ = some (.int .i64 a0_0) := (q8a BK142.out 0).trans rfl
  have hcz11_1 : w3.cell? ⟨gb142, 1, none⟩ = some (.int .i64 a0_1) := (q8a BK142.out 1).trans rfl
  have hcz11_2 : w3.cell? ⟨gb142, 2, none⟩ = some (.int .i64 a0_2) := (q8a BK142.out 2).trans rfl
  have hcz11_3 : w3.cell? ⟨gb142, 3, none⟩ = some (.int .i64 a0_3) := (q8a BK142.out 3).trans rfl
  have hcz11_4 : w3.cell? ⟨gb142, 4, none⟩ = some (.string a0_4) := (q8a BK142.out 4).trans rfl
  have hcz11_5 : w3.cell? ⟨gb142, 5, none⟩ = some (.int .i64 a0_5) := (q8a BK142.out 5).trans rfl
  have hfz11_0 := zd BK142.out 0
  have hfz11_1 := zd BK142.out 1
  have hfz11_2 := zd BK142.out 2
  have hfz11_3 := zd BK142.out 3
  have hfz11_4 := zd BK142.out 4
  have hfz11_5 := zd BK142.out 5
  go_wp2_with (first | ((with_reducible refine gate_callee (f := 68) rfl ?_); refine goesL_ (some 5) rfl rfl Try.func68 zG75 rfl #[.int .i64 a0_0, .int .i64 1, .int .i64 9] rfl zG55 ?_; (with_reducible refine (spec_l01In.calls a0_0 1 9 true _ A4.out).mono ?_); rintro e w' ⟨rfl, ⟨nd, rfl⟩⟩; refine ⟨_, rfl, ?_⟩) | (go_at_call 68; (with_reducible refine (spec_l01In.calls a0_1 1 120 true _ A6.out).mono ?_); rintro e w' ⟨rfl, ⟨nd, rfl⟩⟩) | (go_at_call 68; (with_reducible refine (spec_l01In.calls a0_2 0 1000000000 true _ A8.out).mono ?_); rintro e w' ⟨rfl, ⟨nd, rfl⟩⟩) | (go_at_call 69; (with_reducible refine (spec_NameOK.calls k a0_4 t146 _ A10.out).mono ?_); rintro e w' ⟨rfl, ⟨nd, rfl⟩⟩))
  go_meet
  case rel => exact ⟨_, (!t146), zG74, H', ⟨zH102⟩, ⟨zH83⟩, ⟨zH61⟩⟩
 case rest =>
  clear HC2
  try clear c5
  try clear c7
  try clear c9
  try clear hcz11_0
  try clear hcz11_1
  try clear hcz11_2
  try clear hcz11_3
  try clear hcz11_4
  try clear hcz11_5
  try clear hcz12_0
  try clear hcz12_1
  try clear hcz12_2
  try clear hcz12_3
  try clear hcz12_4
  try clear hcz12_5
  try clear hcz13_0
  try clear hcz13_1
  try clear hcz13_2
  try clear hcz13_3
  try clear hcz13_4
  try clear hcz13_5
  try clear hcz14_0
  try clear hcz14_1
  try clear hcz14_2
  try clear hcz14_3
  try clear hcz14_4
  try clear hcz14_5
  try clear hfz11_0
  try clear hfz11_1
  try clear hfz11_2
  try clear hfz11_3
  try clear hfz11_4
  try clear hfz11_5
  try clear hfz12_0
  try clear hfz12_1
  try clear hfz12_2
  try clear hfz12_3
  try clear hfz12_4
  try clear hfz12_5
  try clear hfz13_0
  try clear hfz13_1
  try clear hfz13_2
  try clear hfz13_3
  try clear hfz13_4
  try clear hfz13_5
  try clear hfz14_0
  try clear hfz14_1
  try clear hfz14_2
  try clear hfz14_3
  try clear hfz14_4
  try clear hfz14_5
  obtain ⟨kq, x24_1, rfl, HA, HJ1, BK142, HB⟩ := hcut
  cases kq with
  | zero => exact absurd HA.out (by simp [spec_l12Right.j0])
  | succ kj1 =>
   have H := HA.out
   clear HA
   simp only [spec_l12Right.j0] at H
   by_cases c15 : x24_1 = true
   ·subst c15
    have H1 : (some false) = some r := by rw [if_pos rfl] at H; exact H
    clear H
    have H := H1
    clear H1
    obtain rfl := Option.some.inj H
    go_wp2
    go_ret
    exact zH28
   replace c15 := Bool.eq_false_iff.mpr c15
   subst c15
   have H1 : (if a0_3 = 3 then (some (a0_5 == 0)) else (if a0_3 = 1 then ((spec_l01In.f a0_5 1 1000000).bind fun t147 => (some t147)) else (if a0_3 = 2 then ((spec_l01In.f a0_5 1 1000000).bind fun t148 => (some t148)) else (some false)))) = some r := by rw [if_neg (show ¬ (false = true) by decide)] at H; exact H
   clear H
   have H := H1
   clear H1
   by_cases c16 : a0_3 = 3
   ·rw [if_pos c16] at H
    have c16b0 : (a0_3 == 3) = true := beq_iff_eq.mpr c16
    have c16b1 : (a0_3 != 3) = false := bne_eq_false_iff_eq.mpr c16
    clear c16
    obtain rfl := Option.some.inj H
    have hcz17_0 : wc.cell? ⟨gb142, 0, none⟩ = some (.int .i64 a0_0) := (q8a BK142.out 0).trans rfl
    have hcz17_1 : wc.cell? ⟨gb142, 1, none⟩ = some (.int .i64 a0_1) := (q8a BK142.out 1).trans rfl
    have hcz17_2 : wc.cell? ⟨gb142, 2, none⟩ = some (.int .i64 a0_2) := (q8a BK142.out 2).trans rfl
    have hcz17_3 : wc.cell? ⟨gb142, 3, none⟩ = some (.int .i64 a0_3) := (q8a BK142.out 3).trans rfl
    have hcz17_4 : wc.cell? ⟨gb142, 4, none⟩ = some (.string a0_4) := (q8a BK142.out 4).trans rfl
    have hcz17_5 : wc.cell? ⟨gb142, 5, none⟩ = some (.int .i64 a0_5) := (q8a BK142.out 5).trans rfl
    have hfz17_0 := zd BK142.out 0
    have hfz17_1 := zd BK142.out 1
    have hfz17_2 := zd BK142.out 2
    have hfz17_3 := zd BK142.out 3
    have hfz17_4 := zd BK142.out 4
    have hfz17_5 := zd BK142.out 5
    go_wp2
    go_ret
    exact zH28
   rw [if_neg c16] at H
   have c16b0 : (a0_3 == 3) = false := beq_eq_false_iff_ne.mpr c16
   have c16b1 : (a0_3 != 3) = true := bne_iff_ne.mpr c16
   by_cases c18 : a0_3 = 1
   ·rw [if_pos c18] at H
    have c18b0 : (a0_3 == 1) = true := beq_iff_eq.mpr c18
    have c18b1 : (a0_3 != 1) = false := bne_eq_false_iff_eq.mpr c18
    clear c18
    replace H := Option.bind_eq_some_iff.mp H
    obtain ⟨t147, A190, H⟩ := H
    replace H : (some t147) = some r := H
    have A19 := zb A190
    clear A190
    obtain rfl := Option.some.inj H
    have hcz20_0 : wc.cell? ⟨gb142, 0, none⟩ = some (.int .i64 a0_0) := (q8a BK142.out 0).trans rfl
    have hcz20_1 : wc.cell? ⟨gb142, 1, none⟩ = some (.int .i64 a0_1) := (q8a BK142.out 1).trans rfl
    have hcz20_2 : wc.cell? ⟨gb142, 2, none⟩ = some (.int .i64 a0_2) := (q8a BK142.out 2).trans rfl
    have hcz20_3 : wc.cell? ⟨gb142, 3, none⟩ = some (.int .i64 a0_3) := (q8a BK142.out 3).trans rfl
    have hcz20_4 : wc.cell? ⟨gb142, 4, none⟩ = some (.string a0_4) := (q8a BK142.out 4).trans rfl
    have hcz20_5 : wc.cell? ⟨gb142, 5, none⟩ = some (.int .i64 a0_5) := (q8a BK142.out 5).trans rfl
    have hfz20_0 := zd BK142.out 0
    have hfz20_1 := zd BK142.out 1
    have hfz20_2 := zd BK142.out 2
    have hfz20_3 := zd BK142.out 3
    have hfz20_4 := zd BK142.out 4
    have hfz20_5 := zd BK142.out 5
    go_wp2_with (first | (go_at_call 68; (with_reducible refine (spec_l01In.calls a0_5 1 1000000 t147 _ A19.out).mono ?_); rintro e w' ⟨rfl, ⟨nd, rfl⟩⟩))
    go_ret
    exact zH28
   rw [if_neg c18] at H
   have c18b0 : (a0_3 == 1) = false := beq_eq_false_iff_ne.mpr c18
   have c18b1 : (a0_3 != 1) = true := bne_iff_ne.mpr c18
   by_cases c21 : a0_3 = 2
   rotate_left
   ·rw [if_neg c21] at H
    have c21b0 : (a0_3 == 2) = false := beq_eq_false_iff_ne.mpr c21
    have c21b1 : (a0_3 != 2) = true := bne_iff_ne.mpr c21
    obtain rfl := Option.some.inj H
    have hcz24_0 : wc.cell? ⟨gb142, 0, none⟩ = some (.int .i64 a0_0) := (q8a BK142.out 0).trans rfl
    have hcz24_1 : wc.cell? ⟨gb142, 1, none⟩ = some (.int .i64 a0_1) := (q8a BK142.out 1).trans rfl
    have hcz24_2 : wc.cell? ⟨gb142, 2, none⟩ = some (.int .i64 a0_2) := (q8a BK142.out 2).trans rfl
    have hcz24_3 : wc.cell? ⟨gb142, 3, none⟩ = some (.int .i64 a0_3) := (q8a BK142.out 3).trans rfl
    have hcz24_4 : wc.cell? ⟨gb142, 4, none⟩ = some (.string a0_4) := (q8a BK142.out 4).trans rfl
    have hcz24_5 : wc.cell? ⟨gb142, 5, none⟩ = some (.int .i64 a0_5) := (q8a BK142.out 5).trans rfl
    have hfz24_0 := zd BK142.out 0
    have hfz24_1 := zd BK142.out 1
    have hfz24_2 := zd BK142.out 2
    have hfz24_3 := zd BK142.out 3
    have hfz24_4 := zd BK142.out 4
    have hfz24_5 := zd BK142.out 5
    go_wp2
    go_ret
    exact zH28

   rw [if_pos c21] at H
   have c21b0 : (a0_3 == 2) = true := beq_iff_eq.mpr c21
   have c21b1 : (a0_3 != 2) = false := bne_eq_false_iff_eq.mpr c21
   clear c21
   replace H := Option.bind_eq_some_iff.mp H
   obtain ⟨t148, A220, H⟩ := H
   replace H : (some t148) = some r := H
   have A22 := zb A220
   clear A220
   obtain rfl := Option.some.inj H
   have hcz23_0 : wc.cell? ⟨gb142, 0, none⟩ = some (.int .i64 a0_0) := (q8a BK142.out 0).trans rfl
   have hcz23_1 : wc.cell? ⟨gb142, 1, none⟩ = some (.int .i64 a0_1) := (q8a BK142.out 1).trans rfl
   have hcz23_2 : wc.cell? ⟨gb142, 2, none⟩ = some (.int .i64 a0_2) := (q8a BK142.out 2).trans rfl
   have hcz23_3 : wc.cell? ⟨gb142, 3, none⟩ = some (.int .i64 a0_3) := (q8a BK142.out 3).trans rfl
   have hcz23_4 : wc.cell? ⟨gb142, 4, none⟩ = some (.string a0_4) := (q8a BK142.out 4).trans rfl
   have hcz23_5 : wc.cell? ⟨gb142, 5, none⟩ = some (.int .i64 a0_5) := (q8a BK142.out 5).trans rfl
   have hfz23_0 := zd BK142.out 0
   have hfz23_1 := zd BK142.out 1
   have hfz23_2 := zd BK142.out 2
   have hfz23_3 := zd BK142.out 3
   have hfz23_4 := zd BK142.out 4
   have hfz23_5 := zd BK142.out 5
   go_wp2_with (first | (go_at_call 68; (with_reducible refine (spec_l01In.calls a0_5 1 1000000 t148 _ A22.out).mono ?_); rintro e w' ⟨rfl, ⟨nd, rfl⟩⟩))
   go_ret
   exact zH28
end Go.Proofs.Ytoibmbkmpadmnaa.G
