-- squeezed
-- made by pp.py (wip/tools) out of the translation; Lean checks it
import Derived.Test.YtoibmbkmpadmnaaG0
namespace Go.Proofs.Ytoibmbkmpadmnaa.G
open Go.RowKit Go.Proofs.YtoibmbkmpadmnaaW.PrintWords Go.Proofs.YtoibmbkmpadmnaaW.PrintLast Go.Proofs.YtoibmbkmpadmnaaW.PrintMore
attribute [local go_sem] max2_int min2_int max_two min_two max_three min_three max_four min_four   -- for this text's walks alone
set_option linter.unusedVariables false
set_option linter.unusedSimpArgs false


/-! ### spec_l00Letter: function 90 -/
mutual
def spec_l00Letter.j0 : Nat → ByteArray → Int → Int → Bool → Option (Int)
 | 0, _, _, _, _ => none
 | k + 1, x0, x1, x5, x27 => if x27 = true then (some 1) else (if x5 < 194 then (spec_l00Letter.j1 k x0 x1 x5 true) else (if x5 > 223 then (spec_l00Letter.j1 k x0 x1 x5 true) else (if (wrap64 (x1 + 1)) ≥ (x0.size : Int) then (spec_l00Letter.j1 k x0 x1 x5 true) else (if 0 ≤ (wrap64 (x1 + 1)) then (if (wrap64 (x1 + 1)) < (x0.size : Int) then (if (bt x0 (wrap64 (x1 + 1))) < 128 then (spec_l00Letter.j1 k x0 x1 x5 true) else (spec_l00Letter.j1 k x0 x1 x5 (decide ((bt x0 (wrap64 (x1 + 1))) > 191)))) else (none)) else (none)))))
def spec_l00Letter.j1 : Nat → ByteArray → Int → Int → Bool → Option (Int)
 | 0, _, _, _, _ => none
 | k + 1, x0, x1, x5, x54 => if x54 = true then (some 0) else (if 0 ≤ (wrap64 (x1 + 1)) then (if (wrap64 (x1 + 1)) < (x0.size : Int) then (if (wrap64 ((wrap64 ((wrap64 ((wrap64 ((wrap64 (x5)) - 192)) * 64)) + (wrap64 (bt x0 (wrap64 (x1 + 1)))))) - 128)) ≥ 192 then (if (wrap64 ((wrap64 ((wrap64 ((wrap64 ((wrap64 (x5)) - 192)) * 64)) + (wrap64 (bt x0 (wrap64 (x1 + 1)))))) - 128)) ≤ 591 then (if (wrap64 ((wrap64 ((wrap64 ((wrap64 ((wrap64 (x5)) - 192)) * 64)) + (wrap64 (bt x0 (wrap64 (x1 + 1)))))) - 128)) = 215 then (if (wrap64 ((wrap64 ((wrap64 ((wrap64 ((wrap64 (x5)) - 192)) * 64)) + (wrap64 (bt x0 (wrap64 (x1 + 1)))))) - 128)) ≥ 913 then (if (wrap64 ((wrap64 ((wrap64 ((wrap64 ((wrap64 (x5)) - 192)) * 64)) + (wrap64 (bt x0 (wrap64 (x1 + 1)))))) - 128)) ≤ 969 then (some 2) else (if (wrap64 ((wrap64 ((wrap64 ((wrap64 ((wrap64 (x5)) - 192)) * 64)) + (wrap64 (bt x0 (wrap64 (x1 + 1)))))) - 128)) ≥ 1040 then (if (wrap64 ((wrap64 ((wrap64 ((wrap64 ((wrap64 (x5)) - 192)) * 64)) + (wrap64 (bt x0 (wrap64 (x1 + 1)))))) - 128)) ≤ 1103 then (some 2) else (some 0)) else (some 0))) else (if (wrap64 ((wrap64 ((wrap64 ((wrap64 ((wrap64 (x5)) - 192)) * 64)) + (wrap64 (bt x0 (wrap64 (x1 + 1)))))) - 128)) ≥ 1040 then (if (wrap64 ((wrap64 ((wrap64 ((wrap64 ((wrap64 (x5)) - 192)) * 64)) + (wrap64 (bt x0 (wrap64 (x1 + 1)))))) - 128)) ≤ 1103 then (some 2) else (some 0)) else (some 0))) else (if (wrap64 ((wrap64 ((wrap64 ((wrap64 ((wrap64 (x5)) - 192)) * 64)) + (wrap64 (bt x0 (wrap64 (x1 + 1)))))) - 128)) = 247 then (if (wrap64 ((wrap64 ((wrap64 ((wrap64 ((wrap64 (x5)) - 192)) * 64)) + (wrap64 (bt x0 (wrap64 (x1 + 1)))))) - 128)) ≥ 913 then (if (wrap64 ((wrap64 ((wrap64 ((wrap64 ((wrap64 (x5)) - 192)) * 64)) + (wrap64 (bt x0 (wrap64 (x1 + 1)))))) - 128)) ≤ 969 then (some 2) else (if (wrap64 ((wrap64 ((wrap64 ((wrap64 ((wrap64 (x5)) - 192)) * 64)) + (wrap64 (bt x0 (wrap64 (x1 + 1)))))) - 128)) ≥ 1040 then (if (wrap64 ((wrap64 ((wrap64 ((wrap64 ((wrap64 (x5)) - 192)) * 64)) + (wrap64 (bt x0 (wrap64 (x1 + 1)))))) - 128)) ≤ 1103 then (some 2) else (some 0)) else (some 0))) else (if (wrap64 ((wrap64 ((wrap64 ((wrap64 ((wrap64 (x5)) - 192)) * 64)) + (wrap64 (bt x0 (wrap64 (x1 + 1)))))) - 128)) ≥ 1040 then (if (wrap64 ((wrap64 ((wrap64 ((wrap64 ((wrap64 (x5)) - 192)) * 64)) + (wrap64 (bt x0 (wrap64 (x1 + 1)))))) - 128)) ≤ 1103 then (some 2) else (some 0)) else (some 0))) else (some 2))) else (if (wrap64 ((wrap64 ((wrap64 ((wrap64 ((wrap64 (x5)) - 192)) * 64)) + (wrap64 (bt x0 (wrap64 (x1 + 1)))))) - 128)) ≥ 913 then (if (wrap64 ((wrap64 ((wrap64 ((wrap64 ((wrap64 (x5)) - 192)) * 64)) + (wrap64 (bt x0 (wrap64 (x1 + 1)))))) - 128)) ≤ 969 then (some 2) else (if (wrap64 ((wrap64 ((wrap64 ((wrap64 ((wrap64 (x5)) - 192)) * 64)) + (wrap64 (bt x0 (wrap64 (x1 + 1)))))) - 128)) ≥ 1040 then (if (wrap64 ((wrap64 ((wrap64 ((wrap64 ((wrap64 (x5)) - 192)) * 64)) + (wrap64 (bt x0 (wrap64 (x1 + 1)))))) - 128)) ≤ 1103 then (some 2) else (some 0)) else (some 0))) else (if (wrap64 ((wrap64 ((wrap64 ((wrap64 ((wrap64 (x5)) - 192)) * 64)) + (wrap64 (bt x0 (wrap64 (x1 + 1)))))) - 128)) ≥ 1040 then (if (wrap64 ((wrap64 ((wrap64 ((wrap64 ((wrap64 (x5)) - 192)) * 64)) + (wrap64 (bt x0 (wrap64 (x1 + 1)))))) - 128)) ≤ 1103 then (some 2) else (some 0)) else (some 0)))) else (if (wrap64 ((wrap64 ((wrap64 ((wrap64 ((wrap64 (x5)) - 192)) * 64)) + (wrap64 (bt x0 (wrap64 (x1 + 1)))))) - 128)) ≥ 913 then (if (wrap64 ((wrap64 ((wrap64 ((wrap64 ((wrap64 (x5)) - 192)) * 64)) + (wrap64 (bt x0 (wrap64 (x1 + 1)))))) - 128)) ≤ 969 then (some 2) else (if (wrap64 ((wrap64 ((wrap64 ((wrap64 ((wrap64 (x5)) - 192)) * 64)) + (wrap64 (bt x0 (wrap64 (x1 + 1)))))) - 128)) ≥ 1040 then (if (wrap64 ((wrap64 ((wrap64 ((wrap64 ((wrap64 (x5)) - 192)) * 64)) + (wrap64 (bt x0 (wrap64 (x1 + 1)))))) - 128)) ≤ 1103 then (some 2) else (some 0)) else (some 0))) else (if (wrap64 ((wrap64 ((wrap64 ((wrap64 ((wrap64 (x5)) - 192)) * 64)) + (wrap64 (bt x0 (wrap64 (x1 + 1)))))) - 128)) ≥ 1040 then (if (wrap64 ((wrap64 ((wrap64 ((wrap64 ((wrap64 (x5)) - 192)) * 64)) + (wrap64 (bt x0 (wrap64 (x1 + 1)))))) - 128)) ≤ 1103 then (some 2) else (some 0)) else (some 0)))) else (none)) else (none))
end
def spec_l00Letter.f (k : Nat) (a0 : ByteArray) (a1 : Int) : Option (Int) := if 0 ≤ a1 then (if a1 < (a0.size : Int) then (if (bt a0 a1) ≥ 97 then (if (bt a0 a1) ≤ 122 then (spec_l00Letter.j0 k a0 a1 (bt a0 a1) true) else (if (bt a0 a1) ≥ 65 then (if (bt a0 a1) ≤ 90 then (spec_l00Letter.j0 k a0 a1 (bt a0 a1) true) else (spec_l00Letter.j0 k a0 a1 (bt a0 a1) ((bt a0 a1) == 95))) else (spec_l00Letter.j0 k a0 a1 (bt a0 a1) ((bt a0 a1) == 95)))) else (if (bt a0 a1) ≥ 65 then (if (bt a0 a1) ≤ 90 then (spec_l00Letter.j0 k a0 a1 (bt a0 a1) true) else (spec_l00Letter.j0 k a0 a1 (bt a0 a1) ((bt a0 a1) == 95))) else (spec_l00Letter.j0 k a0 a1 (bt a0 a1) ((bt a0 a1) == 95)))) else (none)) else (none)
theorem spec_l00Letter.mono_l : ∀ k, (∀ y0 y1 y2 y3, LeO (spec_l00Letter.j0 k y0 y1 y2 y3) (spec_l00Letter.j0 (k + 1) y0 y1 y2 y3)) ∧ (∀ y0 y1 y2 y3, LeO (spec_l00Letter.j1 k y0 y1 y2 y3) (spec_l00Letter.j1 (k + 1) y0 y1 y2 y3))
 | 0 => ⟨fun _ _ _ _ r h => by simp [spec_l00Letter.j0] at h, fun _ _ _ _ r h => by simp [spec_l00Letter.j1] at h⟩
 | k + 1 => by
  obtain ⟨ih0, ih1⟩ := spec_l00Letter.mono_l k
  refine ⟨?_, ?_⟩
  ·intro y0 y1 y2 y3
   unfold spec_l00Letter.j0
   repeat' first
   | (with_reducible exact ih0 _ _ _ _)
   | (with_reducible exact ih1 _ _ _ _)
   | (with_reducible exact LeO.refl _)
   | (with_reducible exact LeO.none _)
   | (with_reducible refine LeO.ite ?_ ?_)
   | (with_reducible refine LeO.bind ?_ (fun _ => ?_))
   | exact ih0 _ _ _ _
   | exact ih1 _ _ _ _
   | exact LeO.none _
   | refine LeO.ite ?_ ?_
   | refine LeO.bind ?_ (fun _ => ?_)
  ·intro y0 y1 y2 y3
   unfold spec_l00Letter.j1
   repeat' first
   | (with_reducible exact ih0 _ _ _ _)
   | (with_reducible exact ih1 _ _ _ _)
   | (with_reducible exact LeO.refl _)
   | (with_reducible exact LeO.none _)
   | (with_reducible refine LeO.ite ?_ ?_)
   | (with_reducible refine LeO.bind ?_ (fun _ => ?_))
   | exact ih0 _ _ _ _
   | exact ih1 _ _ _ _
   | exact LeO.none _
   | refine LeO.ite ?_ ?_
   | refine LeO.bind ?_ (fun _ => ?_)
theorem spec_l00Letter.mono : ∀ a0 a1 k, LeO (spec_l00Letter.f k a0 a1) (spec_l00Letter.f (k + 1) a0 a1) := by
 intro a0 a1 k
 obtain ⟨ih0, ih1⟩ := spec_l00Letter.mono_l k
 unfold spec_l00Letter.f
 repeat' first
   | (with_reducible exact ih0 _ _ _ _)
   | (with_reducible exact ih1 _ _ _ _)
   | (with_reducible exact LeO.refl _)
   | (with_reducible exact LeO.none _)
   | (with_reducible refine LeO.ite ?_ ?_)
   | (with_reducible refine LeO.bind ?_ (fun _ => ?_))
   | exact ih0 _ _ _ _
   | exact ih1 _ _ _ _
   | exact LeO.none _
   | refine LeO.ite ?_ ?_
   | refine LeO.bind ?_ (fun _ => ?_)
set_option maxHeartbeats 64000000 in
set_option maxRecDepth 100000 in
theorem spec_l00Letter.calls (k : Nat) (a0 : ByteArray) (a1 : Int) (r : Int) (w : World) (h : spec_l00Letter.f k a0 a1 = some r) :
  Calls Try.prog 90 #[.string a0, .int .i64 a1] w fun e w' => e = .returned (.int .i64 r) ∧ Drawn0 w w' := by
 have H : (if 0 ≤ a1 then (if a1 < (a0.size : Int) then (if (bt a0 a1) ≥ 97 then (if (bt a0 a1) ≤ 122 then (spec_l00Letter.j0 k a0 a1 (bt a0 a1) true) else (if (bt a0 a1) ≥ 65 then (if (bt a0 a1) ≤ 90 then (spec_l00Letter.j0 k a0 a1 (bt a0 a1) true) else (spec_l00Letter.j0 k a0 a1 (bt a0 a1) ((bt a0 a1) == 95))) else (spec_l00Letter.j0 k a0 a1 (bt a0 a1) ((bt a0 a1) == 95)))) else (if (bt a0 a1) ≥ 65 then (if (bt a0 a1) ≤ 90 then (spec_l00Letter.j0 k a0 a1 (bt a0 a1) true) else (spec_l00Letter.j0 k a0 a1 (bt a0 a1) ((bt a0 a1) == 95))) else (spec_l00Letter.j0 k a0 a1 (bt a0 a1) ((bt a0 a1) == 95)))) else (none)) else (none)) = some r := h
 clear h
 by_cases c3 : 0 ≤ a1
 rotate_left
 ·rw [if_neg c3] at H
  exact absurd H (by simp)

 rw [if_pos c3] at H
 have c3b0 := decide_eq_true c3
 clear c3
 by_cases c4 : a1 < (a0.size : Int)
 rotate_left
 ·rw [if_neg c4] at H
  exact absurd H (by simp)
 rw [if_pos c4] at H
 have c4b0 := decide_eq_true c4
 clear c4
 have HC6 := zb H
 clear H
 have p5 : 0 ≤ (a1 : Int) := zO
 have q5 : a1 < (a0.size : Int) := zO
 have hx5 := bt_at a0 a1
 replace p5 := eq_true p5
 replace q5 := eq_true q5
 go_enter Try.func90, Try.ntmps90
 go_upto_region 2 with (fail)
 go_cut [27] (fun v27 wc => ∃ (kq : Nat) (x27_5 : Bool), v27 = .bool x27_5 ∧ Aside0 (spec_l00Letter.j0 kq a0 a1 (bt a0 a1) x27_5 = some r) ∧ Aside0 (kq ≤ k) ∧ Drawn0 w wc)
 case first =>
  have H := HC6.out
  clear HC6
  by_cases c7 : (bt a0 a1) ≥ 97
  rotate_left
  ·rw [if_neg c7] at H
   have c7b0 : decide (97 ≤ (bt a0 a1)) = false := decide_eq_false c7
   clear c7
   (first | rw [c7b0] | (simp only [i64_w, i32_w]; rw [c7b0]) | skip)
   by_cases c11 : (bt a0 a1) ≥ 65
   rotate_left
   ·rw [if_neg c11] at H
    have c11b0 : decide (65 ≤ (bt a0 a1)) = false := decide_eq_false c11
    clear c11
    have H' := zb H
    clear H
    go_wp2
    go_meet
    case rel => exact ⟨_, (((bt a0 a1) == 95)), zG74, H', ⟨zH102⟩, zH97⟩
   rw [if_pos c11] at H
   have c11b0 : decide (65 ≤ (bt a0 a1)) = true := decide_eq_true c11
   clear c11
   by_cases c12 : (bt a0 a1) ≤ 90
   rotate_left
   ·rw [if_neg c12] at H
    have c12b0 := decide_eq_false c12
    clear c12
    have H' := zb H
    clear H
    go_wp2
    go_meet
    case rel => exact ⟨_, (((bt a0 a1) == 95)), zG74, H', ⟨zH102⟩, zH97⟩
   rw [if_pos c12] at H
   have c12b0 := decide_eq_true c12
   clear c12
   have H' := zb H
   clear H
   go_wp2
   go_meet
   case rel => exact ⟨_, (true), zG74, H', ⟨zH102⟩, zH97⟩
  rw [if_pos c7] at H
  have c7b0 : decide (97 ≤ (bt a0 a1)) = true := decide_eq_true c7
  clear c7
  (first | rw [c7b0] | (simp only [i64_w, i32_w]; rw [c7b0]) | skip)
  by_cases c8 : (bt a0 a1) ≤ 122
  ·rw [if_pos c8] at H
   have c8b0 := decide_eq_true c8
   clear c8
   have H' := zb H
   clear H
   go_wp2
   go_meet
   case rel => exact ⟨_, (true), zG74, H', ⟨zH102⟩, zH97⟩
  rw [if_neg c8] at H
  have c8b0 := decide_eq_false c8
  clear c8
  by_cases c9 : (bt a0 a1) ≥ 65
  rotate_left
  ·rw [if_neg c9] at H
   have c9b0 : decide (65 ≤ (bt a0 a1)) = false := decide_eq_false c9
   clear c9
   have H' := zb H
   clear H
   go_wp2
   go_meet
   case rel => exact ⟨_, (((bt a0 a1) == 95)), zG74, H', ⟨zH102⟩, zH97⟩
  rw [if_pos c9] at H
  have c9b0 : decide (65 ≤ (bt a0 a1)) = true := decide_eq_true c9
  clear c9
  by_cases c10 : (bt a0 a1) ≤ 90
  rotate_left
  ·rw [if_neg c10] at H
   have c10b0 := decide_eq_false c10
   clear c10
   have H' := zb H
   clear H
   go_wp2
   go_meet
   case rel => exact ⟨_, (((bt a0 a1) == 95)), zG74, H', ⟨zH102⟩, zH97⟩
  rw [if_pos c10] at H
  have c10b0 := decide_eq_true c10
  clear c10
  have H' := zb H
  clear H
  go_wp2
  go_meet
  case rel => exact ⟨_, (true), zG74, H', ⟨zH102⟩, zH97⟩
 case rest =>
  clear HC6
  try clear c3
  try clear c3b0
  try clear c4
  try clear c4b0
  try clear p5
  try clear q5
  try clear hx5
  try clear c7
  try clear c7b0
  try clear c8
  try clear c8b0
  try clear c9
  try clear c9b0
  try clear c10
  try clear c10b0
  try clear c11
  try clear c11b0
  try clear c12
  try clear c12b0
  try clear p5
  try clear q5
  obtain ⟨kq, x27_5, rfl, HA, HJ5, ⟨mc5, rfl⟩⟩ := hcut
  cases kq with
  | zero => exact absurd HA.out (by simp [spec_l00Letter.j0])
  | succ kj5 =>
   have H := HA.out
   clear HA
   simp only [spec_l00Letter.j0] at H
   by_cases c13 : x27_5 = true
   ·subst c13
    have H1 : (some 1) = some r := by rw [if_pos rfl] at H; exact H
    clear H
    have H := H1
    clear H1
    obtain rfl := Option.some.inj H
    go_wp2
    go_ret
    exact zH67
   replace c13 := Bool.eq_false_iff.mpr c13
   subst c13
   have H1 : (if (bt a0 a1) < 194 then (spec_l00Letter.j1 kj5 a0 a1 (bt a0 a1) true) else (if (bt a0 a1) > 223 then (spec_l00Letter.j1 kj5 a0 a1 (bt a0 a1) true) else (if (wrap64 (a1 + 1)) ≥ (a0.size : Int) then (spec_l00Letter.j1 kj5 a0 a1 (bt a0 a1) true) else (if 0 ≤ (wrap64 (a1 + 1)) then (if (wrap64 (a1 + 1)) < (a0.size : Int) then (if (bt a0 (wrap64 (a1 + 1))) < 128 then (spec_l00Letter.j1 kj5 a0 a1 (bt a0 a1) true) else (spec_l00Letter.j1 kj5 a0 a1 (bt a0 a1) (decide ((bt a0 (wrap64 (a1 + 1))) > 191)))) else (none)) else (none))))) = some r := by rw [if_neg (show ¬ (false = true) by decide)] at H; exact H
   clear H
   have H := H1
   clear H1
   have HC14 := zb H
   clear H
   go_upto_region 4 with (fail)
   go_cut [54] (fun v54 wc => ∃ (kq : Nat) (x54_13 : Bool), v54 = .bool x54_13 ∧ Aside0 (spec_l00Letter.j1 kq a0 a1 (bt a0 a1) x54_13 = some r) ∧ Aside0 (kq ≤ kj5) ∧ Drawn0 w wc)
   case first =>
    have H := HC14.out
    clear HC14
    by_cases c15 : (bt a0 a1) < 194
    ·rw [if_pos c15] at H
     have c15b0 := decide_eq_true c15
     clear c15
     (first | rw [c15b0] | (simp only [i64_w, i32_w]; rw [c15b0]) | skip)
     have H' := zb H
     clear H
     go_wp2
     go_meet
     case rel => exact ⟨_, (true), zG74, H', ⟨zH98⟩, zH97⟩
    rw [if_neg c15] at H
    have c15b0 := decide_eq_false c15
    clear c15
    (first | rw [c15b0] | (simp only [i64_w, i32_w]; rw [c15b0]) | skip)
    by_cases c16 : (bt a0 a1) > 223
    ·rw [if_pos c16] at H
     have c16b0 : decide (223 < (bt a0 a1)) = true := decide_eq_true c16
     clear c16
     have H' := zb H
     clear H
     go_wp2
     go_meet
     case rel => exact ⟨_, (true), zG74, H', ⟨zH98⟩, zH97⟩
    rw [if_neg c16] at H
    have c16b0 : decide (223 < (bt a0 a1)) = false := decide_eq_false c16
    clear c16
    by_cases c17 : (wrap64 (a1 + 1)) ≥ (a0.size : Int)
    ·rw [if_pos c17] at H
     have c17b0 : decide ((a0.size : Int) ≤ (wrap64 (a1 + 1))) = true := decide_eq_true c17
     clear c17
     have H' := zb H
     clear H
     go_wp2
     go_meet
     case rel => exact ⟨_, (true), zG74, H', ⟨zH98⟩, zH97⟩
    rw [if_neg c17] at H
    have c17b0 : decide ((a0.size : Int) ≤ (wrap64 (a1 + 1))) = false := decide_eq_false c17
    clear c17
    obtain ⟨ji18, hji18⟩ : ∃ j_ : Int, (wrap64 (a1 + 1)) = j_ := ⟨_, rfl⟩
    replace H : (if 0 ≤ (ji18) then (if (ji18) < (a0.size : Int) then (if (bt a0 (ji18)) < 128 then (spec_l00Letter.j1 kj5 a0 a1 (bt a0 a1) true) else (spec_l00Letter.j1 kj5 a0 a1 (bt a0 a1) (decide ((bt a0 (ji18)) > 191)))) else (none)) else (none)) = some r := by first | (rw [hji18] at H; exact H) | (simp only [hji18] at H ⊢; exact H)
    (try rw [hji18] at c17b0)
    have hji18w : (IntKind.i64.wrap (a1 + 1)) = ji18 := (i64_w _).trans hji18
    by_cases c19 : 0 ≤ (ji18)
    rotate_left
    ·rw [if_neg c19] at H
     exact absurd H (by simp)
    rw [if_pos c19] at H
    have c19b0 := decide_eq_true c19
    clear c19
    by_cases c20 : (ji18) < (a0.size : Int)
    rotate_left
    ·rw [if_neg c20] at H
     exact absurd H (by simp)
    rw [if_pos c20] at H
    have c20b0 := decide_eq_true c20
    clear c20
    by_cases c22 : (bt a0 (ji18)) < 128
    ·rw [if_pos c22] at H
     have c22b0 := decide_eq_true c22
     clear c22
     have H' := zb H
     clear H
     have p21 : 0 ≤ ((ji18) : Int) := zO
     have q21 : (ji18) < (a0.size : Int) := zO
     have hx21 := bt_at a0 (ji18)
     replace p21 := eq_true p21
     replace q21 := eq_true q21
     go_wp2
     go_meet
     case rel => exact ⟨_, (true), zG74, H', ⟨zH98⟩, zH97⟩
    rw [if_neg c22] at H
    have c22b0 := decide_eq_false c22
    clear c22
    have H' := zb H
    clear H
    have p21 : 0 ≤ ((ji18) : Int) := zO
    have q21 : (ji18) < (a0.size : Int) := zO
    have hx21 := bt_at a0 (ji18)
    replace p21 := eq_true p21
    replace q21 := eq_true q21
    have p23 : 0 ≤ ((ji18) : Int) := zO
    have q23 : (ji18) < (a0.size : Int) := zO
    have hx23 := bt_at a0 (ji18)
    replace p23 := eq_true p23
    replace q23 := eq_true q23
    go_wp2
    go_meet
    case rel => exact ⟨_, (decide ((bt a0 (ji18)) > 191)), (by first | rfl | (simp; done) | (simp only [← hji18] <;> (first | rfl | simp)) | (simp [*]; done)), H', ⟨zH98⟩, zH97⟩
   case rest =>
    clear HC14
    try clear c3
    try clear c3b0
    try clear c4
    try clear c4b0
    try clear p5
    try clear q5
    try clear hx5
    try clear c7
    try clear c7b0
    try clear c8
    try clear c8b0
    try clear c9
    try clear c9b0
    try clear c10
    try clear c10b0
    try clear c11
    try clear c11b0
    try clear c12
    try clear c12b0
    try clear c13
    try clear c15
    try clear c15b0
    try clear c16
    try clear c16b0
    try clear c17
    try clear c17b0
    try clear c19
    try clear c19b0
    try clear c20
    try clear c20b0
    try clear p21
    try clear q21
    try clear hx21
    try clear c22
    try clear c22b0
    try clear p23
    try clear q23
    try clear hx23
    try clear p21
    try clear p23
    try clear p5
    try clear q21
    try clear q23
    try clear q5
    obtain ⟨kq, x54_13, rfl, HA, HJ13, ⟨mc13, rfl⟩⟩ := hcut
    cases kq with
    | zero => exact absurd HA.out (by simp [spec_l00Letter.j1])
    | succ kj13 =>
     have H := HA.out
     clear HA
     simp only [spec_l00Letter.j1] at H
     by_cases c24 : x54_13 = true
     ·subst c24
      have H1 : (some 0) = some r := by rw [if_pos rfl] at H; exact H
      clear H
      have H := H1
      clear H1
      obtain rfl := Option.some.inj H
      go_wp2
      go_ret
      exact zH67
     replace c24 := Bool.eq_false_iff.mpr c24
     subst c24
     have H1 : (if 0 ≤ (wrap64 (a1 + 1)) then (if (wrap64 (a1 + 1)) < (a0.size : Int) then (if (wrap64 ((wrap64 ((wrap64 ((wrap64 ((wrap64 ((bt a0 a1))) - 192)) * 64)) + (wrap64 (bt a0 (wrap64 (a1 + 1)))))) - 128)) ≥ 192 then (if (wrap64 ((wrap64 ((wrap64 ((wrap64 ((wrap64 ((bt a0 a1))) - 192)) * 64)) + (wrap64 (bt a0 (wrap64 (a1 + 1)))))) - 128)) ≤ 591 then (if (wrap64 ((wrap64 ((wrap64 ((wrap64 ((wrap64 ((bt a0 a1))) - 192)) * 64)) + (wrap64 (bt a0 (wrap64 (a1 + 1)))))) - 128)) = 215 then (if (wrap64 ((wrap64 ((wrap64 ((wrap64 ((wrap64 ((bt a0 a1))) - 192)) * 64)) + (wrap64 (bt a0 (wrap64 (a1 + 1)))))) - 128)) ≥ 913 then (if (wrap64 ((wrap64 ((wrap64 ((wrap64 ((wrap64 ((bt a0 a1))) - 192)) * 64)) + (wrap64 (bt a0 (wrap64 (a1 + 1)))))) - 128)) ≤ 969 then (some 2) else (if (wrap64 ((wrap64 ((wrap64 ((wrap64 ((wrap64 ((bt a0 a1))) - 192)) * 64)) + (wrap64 (bt a0 (wrap64 (a1 + 1)))))) - 128)) ≥ 1040 then (if (wrap64 ((wrap64 ((wrap64 ((wrap64 ((wrap64 ((bt a0 a1))) - 192)) * 64)) + (wrap64 (bt a0 (wrap64 (a1 + 1)))))) - 128)) ≤ 1103 then (some 2) else (some 0)) else (some 0))) else (if (wrap64 ((wrap64 ((wrap64 ((wrap64 ((wrap64 ((bt a0 a1))) - 192)) * 64)) + (wrap64 (bt a0 (wrap64 (a1 + 1)))))) - 128)) ≥ 1040 then (if (wrap64 ((wrap64 ((wrap64 ((wrap64 ((wrap64 ((bt a0 a1))) - 192)) * 64)) + (wrap64 (bt a0 (wrap64 (a1 + 1)))))) - 128)) ≤ 1103 then (some 2) else (some 0)) else (some 0))) else (if (wrap64 ((wrap64 ((wrap64 ((wrap64 ((wrap64 ((bt a0 a1))) - 192)) * 64)) + (wrap64 (bt a0 (wrap64 (a1 + 1)))))) - 128)) = 247 then (if (wrap64 ((wrap64 ((wrap64 ((wrap64 ((wrap64 ((bt a0 a1))) - 192)) * 64)) + (wrap64 (bt a0 (wrap64 (a1 + 1)))))) - 128)) ≥ 913 then (if (wrap64 ((wrap64 ((wrap64 ((wrap64 ((wrap64 ((bt a0 a1))) - 192)) * 64)) + (wrap64 (bt a0 (wrap64 (a1 + 1)))))) - 128)) ≤ 969 then (some 2) else (if (wrap64 ((wrap64 ((wrap64 ((wrap64 ((wrap64 ((bt a0 a1))) - 192)) * 64)) + (wrap64 (bt a0 (wrap64 (a1 + 1)))))) - 128)) ≥ 1040 then (if (wrap64 ((wrap64 ((wrap64 ((wrap64 ((wrap64 ((bt a0 a1))) - 192)) * 64)) + (wrap64 (bt a0 (wrap64 (a1 + 1)))))) - 128)) ≤ 1103 then (some 2) else (some 0)) else (some 0))) else (if (wrap64 ((wrap64 ((wrap64 ((wrap64 ((wrap64 ((bt a0 a1))) - 192)) * 64)) + (wrap64 (bt a0 (wrap64 (a1 + 1)))))) - 128)) ≥ 1040 then (if (wrap64 ((wrap64 ((wrap64 ((wrap64 ((wrap64 ((bt a0 a1))) - 192)) * 64)) + (wrap64 (bt a0 (wrap64 (a1 + 1)))))) - 128)) ≤ 1103 then (some 2) else (some 0)) else (some 0))) else (some 2))) else (if (wrap64 ((wrap64 ((wrap64 ((wrap64 ((wrap64 ((bt a0 a1))) - 192)) * 64)) + (wrap64 (bt a0 (wrap64 (a1 + 1)))))) - 128)) ≥ 913 then (if (wrap64 ((wrap64 ((wrap64 ((wrap64 ((wrap64 ((bt a0 a1))) - 192)) * 64)) + (wrap64 (bt a0 (wrap64 (a1 + 1)))))) - 128)) ≤ 969 then (some 2) else (if (wrap64 ((wrap64 ((wrap64 ((wrap64 ((wrap64 ((bt a0 a1))) - 192)) * 64)) + (wrap64 (bt a0 (wrap64 (a1 + 1)))))) - 128)) ≥ 1040 then (if (wrap64 ((wrap64 ((wrap64 ((wrap64 ((wrap64 ((bt a0 a1))) - 192)) * 64)) + (wrap64 (bt a0 (wrap64 (a1 + 1)))))) - 128)) ≤ 1103 then (some 2) else (some 0)) else (some 0))) else (if (wrap64 ((wrap64 ((wrap64 ((wrap64 ((wrap64 ((bt a0 a1))) - 192)) * 64)) + (wrap64 (bt a0 (wrap64 (a1 + 1)))))) - 128)) ≥ 1040 then (if (wrap64 ((wrap64 ((wrap64 ((wrap64 ((wrap64 ((bt a0 a1))) - 192)) * 64)) + (wrap64 (bt a0 (wrap64 (a1 + 1)))))) - 128)) ≤ 1103 then (some 2) else (some 0)) else (some 0)))) else (if (wrap64 ((wrap64 ((wrap64 ((wrap64 ((wrap64 ((bt a0 a1))) - 192)) * 64)) + (wrap64 (bt a0 (wrap64 (a1 + 1)))))) - 128)) ≥ 913 then (if (wrap64 ((wrap64 ((wrap64 ((wrap64 ((wrap64 ((bt a0 a1))) - 192)) * 64)) + (wrap64 (bt a0 (wrap64 (a1 + 1)))))) - 128)) ≤ 969 then (some 2) else (if (wrap64 ((wrap64 ((wrap64 ((wrap64 ((wrap64 ((bt a0 a1))) - 192)) * 64)) + (wrap64 (bt a0 (wrap64 (a1 + 1)))))) - 128)) ≥ 1040 then (if (wrap64 ((wrap64 ((wrap64 ((wrap64 ((wrap64 ((bt a0 a1))) - 192)) * 64)) + (wrap64 (bt a0 (wrap64 (a1 + 1)))))) - 128)) ≤ 1103 then (some 2) else (some 0)) else (some 0))) else (if (wrap64 ((wrap64 ((wrap64 ((wrap64 ((wrap64 ((bt a0 a1))) - 192)) * 64)) + (wrap64 (bt a0 (wrap64 (a1 + 1)))))) - 128)) ≥ 1040 then (if (wrap64 ((wrap64 ((wrap64 ((wrap64 ((wrap64 ((bt a0 a1))) - 192)) * 64)) + (wrap64 (bt a0 (wrap64 (a1 + 1)))))) - 128)) ≤ 1103 then (some 2) else (some 0)) else (some 0)))) else (none)) else (none)) = some r := by rw [if_neg (show ¬ (false = true) by decide)] at H; exact H
     clear H
     have H := H1
     clear H1
     obtain ⟨ji25, hji25⟩ : ∃ j_ : Int, (wrap64 (a1 + 1)) = j_ := ⟨_, rfl⟩
     replace H : (if 0 ≤ (ji25) then (if (ji25) < (a0.size : Int) then (if (wrap64 ((wrap64 ((wrap64 ((wrap64 ((wrap64 ((bt a0 a1))) - 192)) * 64)) + (wrap64 (bt a0 (ji25))))) - 128)) ≥ 192 then (if (wrap64 ((wrap64 ((wrap64 ((wrap64 ((wrap64 ((bt a0 a1))) - 192)) * 64)) + (wrap64 (bt a0 (ji25))))) - 128)) ≤ 591 then (if (wrap64 ((wrap64 ((wrap64 ((wrap64 ((wrap64 ((bt a0 a1))) - 192)) * 64)) + (wrap64 (bt a0 (ji25))))) - 128)) = 215 then (if (wrap64 ((wrap64 ((wrap64 ((wrap64 ((wrap64 ((bt a0 a1))) - 192)) * 64)) + (wrap64 (bt a0 (ji25))))) - 128)) ≥ 913 then (if (wrap64 ((wrap64 ((wrap64 ((wrap64 ((wrap64 ((bt a0 a1))) - 192)) * 64)) + (wrap64 (bt a0 (ji25))))) - 128)) ≤ 969 then (some 2) else (if (wrap64 ((wrap64 ((wrap64 ((wrap64 ((wrap64 ((bt a0 a1))) - 192)) * 64)) + (wrap64 (bt a0 (ji25))))) - 128)) ≥ 1040 then (if (wrap64 ((wrap64 ((wrap64 ((wrap64 ((wrap64 ((bt a0 a1))) - 192)) * 64)) + (wrap64 (bt a0 (ji25))))) - 128)) ≤ 1103 then (some 2) else (some 0)) else (some 0))) else (if (wrap64 ((wrap64 ((wrap64 ((wrap64 ((wrap64 ((bt a0 a1))) - 192)) * 64)) + (wrap64 (bt a0 (ji25))))) - 128)) ≥ 1040 then (if (wrap64 ((wrap64 ((wrap64 ((wrap64 ((wrap64 ((bt a0 a1))) - 192)) * 64)) + (wrap64 (bt a0 (ji25))))) - 128)) ≤ 1103 then (some 2) else (some 0)) else (some 0))) else (if (wrap64 ((wrap64 ((wrap64 ((wrap64 ((wrap64 ((bt a0 a1))) - 192)) * 64)) + (wrap64 (bt a0 (ji25))))) - 128)) = 247 then (if (wrap64 ((wrap64 ((wrap64 ((wrap64 ((wrap64 ((bt a0 a1))) - 192)) * 64)) + (wrap64 (bt a0 (ji25))))) - 128)) ≥ 913 then (if (wrap64 ((wrap64 ((wrap64 ((wrap64 ((wrap64 ((bt a0 a1))) - 192)) * 64)) + (wrap64 (bt a0 (ji25))))) - 128)) ≤ 969 then (some 2) else (if (wrap64 ((wrap64 ((wrap64 ((wrap64 ((wrap64 ((bt a0 a1))) - 192)) * 64)) + (wrap64 (bt a0 (ji25))))) - 128)) ≥ 1040 then (if (wrap64 ((wrap64 ((wrap64 ((wrap64 ((wrap64 ((bt a0 a1))) - 192)) * 64)) + (wrap64 (bt a0 (ji25))))) - 128)) ≤ 1103 then (some 2) else (some 0)) else (some 0))) else (if (wrap64 ((wrap64 ((wrap64 ((wrap64 ((wrap64 ((bt a0 a1))) - 192)) * 64)) + (wrap64 (bt a0 (ji25))))) - 128)) ≥ 1040 then (if (wrap64 ((wrap64 ((wrap64 ((wrap64 ((wrap64 ((bt a0 a1))) - 192)) * 64)) + (wrap64 (bt a0 (ji25))))) - 128)) ≤ 1103 then (some 2) else (some 0)) else (some 0))) else (some 2))) else (if (wrap64 ((wrap64 ((wrap64 ((wrap64 ((wrap64 ((bt a0 a1))) - 192)) * 64)) + (wrap64 (bt a0 (ji25))))) - 128)) ≥ 913 then (if (wrap64 ((wrap64 ((wrap64 ((wrap64 ((wrap64 ((bt a0 a1))) - 192)) * 64)) + (wrap64 (bt a0 (ji25))))) - 128)) ≤ 969 then (some 2) else (if (wrap64 ((wrap64 ((wrap64 ((wrap64 ((wrap64 ((bt a0 a1))) - 192)) * 64)) + (wrap64 (bt a0 (ji25))))) - 128)) ≥ 1040 then (if (wrap64 ((wrap64 ((wrap64 ((wrap64 ((wrap64 ((bt a0 a1))) - 192)) * 64)) + (wrap64 (bt a0 (ji25))))) - 128)) ≤ 1103 then (some 2) else (some 0)) else (some 0))) else (if (wrap64 ((wrap64 ((wrap64 ((wrap64 ((wrap64 ((bt a0 a1))) - 192)) * 64)) + (wrap64 (bt a0 (ji25))))) - 128)) ≥ 1040 then (if (wrap64 ((wrap64 ((wrap64 ((wrap64 ((wrap64 ((bt a0 a1))) - 192)) * 64)) + (wrap64 (bt a0 (ji25))))) - 128)) ≤ 1103 then (some 2) else (some 0)) else (some 0)))) else (if (wrap64 ((wrap64 ((wrap64 ((wrap64 ((wrap64 ((bt a0 a1))) - 192)) * 64)) + (wrap64 (bt a0 (ji25))))) - 128)) ≥ 913 then (if (wrap64 ((wrap64 ((wrap64 ((wrap64 ((wrap64 ((bt a0 a1))) - 192)) * 64)) + (wrap64 (bt a0 (ji25))))) - 128)) ≤ 969 then (some 2) else (if (wrap64 ((wrap64 ((wrap64 ((wrap64 ((wrap64 ((bt a0 a1))) - 192)) * 64)) + (wrap64 (bt a0 (ji25))))) - 128)) ≥ 1040 then (if (wrap64 ((wrap64 ((wrap64 ((wrap64 ((wrap64 ((bt a0 a1))) - 192)) * 64)) + (wrap64 (bt a0 (ji25))))) - 128)) ≤ 1103 then (some 2) else (some 0)) else (some 0))) else (if (wrap64 ((wrap64 ((wrap64 ((wrap64 ((wrap64 ((bt a0 a1))) - 192)) * 64)) + (wrap64 (bt a0 (ji25))))) - 128)) ≥ 1040 then (if (wrap64 ((wrap64 ((wrap64 ((wrap64 ((wrap64 ((bt a0 a1))) - 192)) * 64)) + (wrap64 (bt a0 (ji25))))) - 128)) ≤ 1103 then (some 2) else (some 0)) else (some 0)))) else (none)) else (none)) = some r := by first | (rw [hji25] at H; exact H) | (simp only [hji25] at H ⊢; exact H)
     have hji25w : (IntKind.i64.wrap (a1 + 1)) = ji25 := (i64_w _).trans hji25
     by_cases c26 : 0 ≤ (ji25)
     rotate_left
     ·rw [if_neg c26] at H
      exact absurd H (by simp)
     rw [if_pos c26] at H
     have c26b0 := decide_eq_true c26
     clear c26
     by_cases c27 : (ji25) < (a0.size : Int)
     rotate_left
     ·rw [if_neg c27] at H
      exact absurd H (by simp)
     rw [if_pos c27] at H
     have c27b0 := decide_eq_true c27
     clear c27
     by_cases c29 : (wrap64 ((wrap64 ((wrap64 ((wrap64 ((wrap64 ((bt a0 a1))) - 192)) * 64)) + (wrap64 (bt a0 (ji25))))) - 128)) ≥ 192
     rotate_left
     ·rw [if_neg c29] at H
      have c29b0 : decide (192 ≤ (wrap64 ((wrap64 ((wrap64 ((wrap64 ((wrap64 ((bt a0 a1))) - 192)) * 64)) + (wrap64 (bt a0 (ji25))))) - 128))) = false := decide_eq_false c29
      clear c29
      by_cases c51 : (wrap64 ((wrap64 ((wrap64 ((wrap64 ((wrap64 ((bt a0 a1))) - 192)) * 64)) + (wrap64 (bt a0 (ji25))))) - 128)) ≥ 913
      rotate_left
      ·rw [if_neg c51] at H
       have c51b0 : decide (913 ≤ (wrap64 ((wrap64 ((wrap64 ((wrap64 ((wrap64 ((bt a0 a1))) - 192)) * 64)) + (wrap64 (bt a0 (ji25))))) - 128))) = false := decide_eq_false c51
       clear c51
       by_cases c55 : (wrap64 ((wrap64 ((wrap64 ((wrap64 ((wrap64 ((bt a0 a1))) - 192)) * 64)) + (wrap64 (bt a0 (ji25))))) - 128)) ≥ 1040
       rotate_left
       ·rw [if_neg c55] at H
        have c55b0 : decide (1040 ≤ (wrap64 ((wrap64 ((wrap64 ((wrap64 ((wrap64 ((bt a0 a1))) - 192)) * 64)) + (wrap64 (bt a0 (ji25))))) - 128))) = false := decide_eq_false c55
        clear c55
        obtain rfl := Option.some.inj H
        have p28 : 0 ≤ ((ji25) : Int) := zO
        have q28 : (ji25) < (a0.size : Int) := zO
        have hx28 := bt_at a0 (ji25)
        replace p28 := eq_true p28
        replace q28 := eq_true q28
        go_wp2
        go_ret
        exact zH39
       rw [if_pos c55] at H
       have c55b0 : decide (1040 ≤ (wrap64 ((wrap64 ((wrap64 ((wrap64 ((wrap64 ((bt a0 a1))) - 192)) * 64)) + (wrap64 (bt a0 (ji25))))) - 128))) = true := decide_eq_true c55
       clear c55
       by_cases c56 : (wrap64 ((wrap64 ((wrap64 ((wrap64 ((wrap64 ((bt a0 a1))) - 192)) * 64)) + (wrap64 (bt a0 (ji25))))) - 128)) ≤ 1103
       rotate_left
       ·rw [if_neg c56] at H
        have c56b0 := decide_eq_false c56
        clear c56
        obtain rfl := Option.some.inj H
        have p28 : 0 ≤ ((ji25) : Int) := zO
        have q28 : (ji25) < (a0.size : Int) := zO
        have hx28 := bt_at a0 (ji25)
        replace p28 := eq_true p28
        replace q28 := eq_true q28
        go_wp2
        go_ret
        exact zH39
       rw [if_pos c56] at H
       have c56b0 := decide_eq_true c56
       clear c56
       obtain rfl := Option.some.inj H
       have p28 : 0 ≤ ((ji25) : Int) := zO
       have q28 : (ji25) < (a0.size : Int) := zO
       have hx28 := bt_at a0 (ji25)
       replace p28 := eq_true p28
       replace q28 := eq_true q28
       go_wp2
       go_ret
       exact zH39
      rw [if_pos c51] at H
      have c51b0 : decide (913 ≤ (wrap64 ((wrap64 ((wrap64 ((wrap64 ((wrap64 ((bt a0 a1))) - 192)) * 64)) + (wrap64 (bt a0 (ji25))))) - 128))) = true := decide_eq_true c51
      clear c51
      by_cases c52 : (wrap64 ((wrap64 ((wrap64 ((wrap64 ((wrap64 ((bt a0 a1))) - 192)) * 64)) + (wrap64 (bt a0 (ji25))))) - 128)) ≤ 969
      ·rw [if_pos c52] at H
       have c52b0 := decide_eq_true c52
       clear c52
       obtain rfl := Option.some.inj H
       have p28 : 0 ≤ ((ji25) : Int) := zO
       have q28 : (ji25) < (a0.size : Int) := zO
       have hx28 := bt_at a0 (ji25)
       replace p28 := eq_true p28
       replace q28 := eq_true q28
       go_wp2
       go_ret
       exact zH39
      rw [if_neg c52] at H
      have c52b0 := decide_eq_false c52
      clear c52
      by_cases c53 : (wrap64 ((wrap64 ((wrap64 ((wrap64 ((wrap64 ((bt a0 a1))) - 192)) * 64)) + (wrap64 (bt a0 (ji25))))) - 128)) ≥ 1040
      rotate_left
      ·rw [if_neg c53] at H
       have c53b0 : decide (1040 ≤ (wrap64 ((wrap64 ((wrap64 ((wrap64 ((wrap64 ((bt a0 a1))) - 192)) * 64)) + (wrap64 (bt a0 (ji25))))) - 128))) = false := decide_eq_false c53
       clear c53
       obtain rfl := Option.some.inj H
       have p28 : 0 ≤ ((ji25) : Int) := zO
       have q28 : (ji25) < (a0.size : Int) := zO
       have hx28 := bt_at a0 (ji25)
       replace p28 := eq_true p28
       replace q28 := eq_true q28
       go_wp2
       go_ret
       exact zH39
      rw [if_pos c53] at H
      have c53b0 : decide (1040 ≤ (wrap64 ((wrap64 ((wrap64 ((wrap64 ((wrap64 ((bt a0 a1))) - 192)) * 64)) + (wrap64 (bt a0 (ji25))))) - 128))) = true := decide_eq_true c53
      clear c53
      by_cases c54 : (wrap64 ((wrap64 ((wrap64 ((wrap64 ((wrap64 ((bt a0 a1))) - 192)) * 64)) + (wrap64 (bt a0 (ji25))))) - 128)) ≤ 1103
      rotate_left
      ·rw [if_neg c54] at H
       have c54b0 := decide_eq_false c54
       clear c54
       obtain rfl := Option.some.inj H
       have p28 : 0 ≤ ((ji25) : Int) := zO
       have q28 : (ji25) < (a0.size : Int) := zO
       have hx28 := bt_at a0 (ji25)
       replace p28 := eq_true p28
       replace q28 := eq_true q28
       go_wp2
       go_ret
       exact zH39
      rw [if_pos c54] at H
      have c54b0 := decide_eq_true c54
      clear c54
      obtain rfl := Option.some.inj H
      have p28 : 0 ≤ ((ji25) : Int) := zO
      have q28 : (ji25) < (a0.size : Int) := zO
      have hx28 := bt_at a0 (ji25)
      replace p28 := eq_true p28
      replace q28 := eq_true q28
      go_wp2
      go_ret
      exact zH39
     rw [if_pos c29] at H
     have c29b0 : decide (192 ≤ (wrap64 ((wrap64 ((wrap64 ((wrap64 ((wrap64 ((bt a0 a1))) - 192)) * 64)) + (wrap64 (bt a0 (ji25))))) - 128))) = true := decide_eq_true c29
     clear c29
     by_cases c30 : (wrap64 ((wrap64 ((wrap64 ((wrap64 ((wrap64 ((bt a0 a1))) - 192)) * 64)) + (wrap64 (bt a0 (ji25))))) - 128)) ≤ 591
     rotate_left
     ·rw [if_neg c30] at H
      have c30b0 := decide_eq_false c30
      clear c30
      by_cases c45 : (wrap64 ((wrap64 ((wrap64 ((wrap64 ((wrap64 ((bt a0 a1))) - 192)) * 64)) + (wrap64 (bt a0 (ji25))))) - 128)) ≥ 913
      rotate_left
      ·rw [if_neg c45] at H
       have c45b0 : decide (913 ≤ (wrap64 ((wrap64 ((wrap64 ((wrap64 ((wrap64 ((bt a0 a1))) - 192)) * 64)) + (wrap64 (bt a0 (ji25))))) - 128))) = false := decide_eq_false c45
       clear c45
       by_cases c49 : (wrap64 ((wrap64 ((wrap64 ((wrap64 ((wrap64 ((bt a0 a1))) - 192)) * 64)) + (wrap64 (bt a0 (ji25))))) - 128)) ≥ 1040
       rotate_left
       ·rw [if_neg c49] at H
        have c49b0 : decide (1040 ≤ (wrap64 ((wrap64 ((wrap64 ((wrap64 ((wrap64 ((bt a0 a1))) - 192)) * 64)) + (wrap64 (bt a0 (ji25))))) - 128))) = false := decide_eq_false c49
        clear c49
        obtain rfl := Option.some.inj H
        have p28 : 0 ≤ ((ji25) : Int) := zO
        have q28 : (ji25) < (a0.size : Int) := zO
        have hx28 := bt_at a0 (ji25)
        replace p28 := eq_true p28
        replace q28 := eq_true q28
        go_wp2
        go_ret
        exact zH39
       rw [if_pos c49] at H
       have c49b0 : decide (1040 ≤ (wrap64 ((wrap64 ((wrap64 ((wrap64 ((wrap64 ((bt a0 a1))) - 192)) * 64)) + (wrap64 (bt a0 (ji25))))) - 128))) = true := decide_eq_true c49
       clear c49
       by_cases c50 : (wrap64 ((wrap64 ((wrap64 ((wrap64 ((wrap64 ((bt a0 a1))) - 192)) * 64)) + (wrap64 (bt a0 (ji25))))) - 128)) ≤ 1103
       rotate_left
       ·rw [if_neg c50] at H
        have c50b0 := decide_eq_false c50
        clear c50
        obtain rfl := Option.some.inj H
        have p28 : 0 ≤ ((ji25) : Int) := zO
        have q28 : (ji25) < (a0.size : Int) := zO
        have hx28 := bt_at a0 (ji25)
        replace p28 := eq_true p28
        replace q28 := eq_true q28
        go_wp2
        go_ret
        exact zH39
       rw [if_pos c50] at H
       have c50b0 := decide_eq_true c50
       clear c50
       obtain rfl := Option.some.inj H
       have p28 : 0 ≤ ((ji25) : Int) := zO
       have q28 : (ji25) < (a0.size : Int) := zO
       have hx28 := bt_at a0 (ji25)
       replace p28 := eq_true p28
       replace q28 := eq_true q28
       go_wp2
       go_ret
       exact zH39
      rw [if_pos c45] at H
      have c45b0 : decide (913 ≤ (wrap64 ((wrap64 ((wrap64 ((wrap64 ((wrap64 ((bt a0 a1))) - 192)) * 64)) + (wrap64 (bt a0 (ji25))))) - 128))) = true := decide_eq_true c45
      clear c45
      by_cases c46 : (wrap64 ((wrap64 ((wrap64 ((wrap64 ((wrap64 ((bt a0 a1))) - 192)) * 64)) + (wrap64 (bt a0 (ji25))))) - 128)) ≤ 969
      ·rw [if_pos c46] at H
       have c46b0 := decide_eq_true c46
       clear c46
       obtain rfl := Option.some.inj H
       have p28 : 0 ≤ ((ji25) : Int) := zO
       have q28 : (ji25) < (a0.size : Int) := zO
       have hx28 := bt_at a0 (ji25)
       replace p28 := eq_true p28
       replace q28 := eq_true q28
       go_wp2
       go_ret
       exact zH39
      rw [if_neg c46] at H
      have c46b0 := decide_eq_false c46
      clear c46
      by_cases c47 : (wrap64 ((wrap64 ((wrap64 ((wrap64 ((wrap64 ((bt a0 a1))) - 192)) * 64)) + (wrap64 (bt a0 (ji25))))) - 128)) ≥ 1040
      rotate_left
      ·rw [if_neg c47] at H
       have c47b0 : decide (1040 ≤ (wrap64 ((wrap64 ((wrap64 ((wrap64 ((wrap64 ((bt a0 a1))) - 192)) * 64)) + (wrap64 (bt a0 (ji25))))) - 128))) = false := decide_eq_false c47
       clear c47
       obtain rfl := Option.some.inj H
       have p28 : 0 ≤ ((ji25) : Int) := zO
       have q28 : (ji25) < (a0.size : Int) := zO
       have hx28 := bt_at a0 (ji25)
       replace p28 := eq_true p28
       replace q28 := eq_true q28
       go_wp2
       go_ret
       exact zH39
      rw [if_pos c47] at H
      have c47b0 : decide (1040 ≤ (wrap64 ((wrap64 ((wrap64 ((wrap64 ((wrap64 ((bt a0 a1))) - 192)) * 64)) + (wrap64 (bt a0 (ji25))))) - 128))) = true := decide_eq_true c47
      clear c47
      by_cases c48 : (wrap64 ((wrap64 ((wrap64 ((wrap64 ((wrap64 ((bt a0 a1))) - 192)) * 64)) + (wrap64 (bt a0 (ji25))))) - 128)) ≤ 1103
      rotate_left
      ·rw [if_neg c48] at H
       have c48b0 := decide_eq_false c48
       clear c48
       obtain rfl := Option.some.inj H
       have p28 : 0 ≤ ((ji25) : Int) := zO
       have q28 : (ji25) < (a0.size : Int) := zO
       have hx28 := bt_at a0 (ji25)
       replace p28 := eq_true p28
       replace q28 := eq_true q28
       go_wp2
       go_ret
       exact zH39
      rw [if_pos c48] at H
      have c48b0 := decide_eq_true c48
      clear c48
      obtain rfl := Option.some.inj H
      have p28 : 0 ≤ ((ji25) : Int) := zO
      have q28 : (ji25) < (a0.size : Int) := zO
      have hx28 := bt_at a0 (ji25)
      replace p28 := eq_true p28
      replace q28 := eq_true q28
      go_wp2
      go_ret
      exact zH39
     rw [if_pos c30] at H
     have c30b0 := decide_eq_true c30
     clear c30
     by_cases c31 : (wrap64 ((wrap64 ((wrap64 ((wrap64 ((wrap64 ((bt a0 a1))) - 192)) * 64)) + (wrap64 (bt a0 (ji25))))) - 128)) = 215
     ·rw [if_pos c31] at H
      have c31b0 : ((wrap64 ((wrap64 ((wrap64 ((wrap64 ((wrap64 ((bt a0 a1))) - 192)) * 64)) + (wrap64 (bt a0 (ji25))))) - 128)) == 215) = true := beq_iff_eq.mpr c31
      have c31b1 : ((wrap64 ((wrap64 ((wrap64 ((wrap64 ((wrap64 ((bt a0 a1))) - 192)) * 64)) + (wrap64 (bt a0 (ji25))))) - 128)) != 215) = false := bne_eq_false_iff_eq.mpr c31
      clear c31
      by_cases c32 : (wrap64 ((wrap64 ((wrap64 ((wrap64 ((wrap64 ((bt a0 a1))) - 192)) * 64)) + (wrap64 (bt a0 (ji25))))) - 128)) ≥ 913
      rotate_left
      ·rw [if_neg c32] at H
       have c32b0 : decide (913 ≤ (wrap64 ((wrap64 ((wrap64 ((wrap64 ((wrap64 ((bt a0 a1))) - 192)) * 64)) + (wrap64 (bt a0 (ji25))))) - 128))) = false := decide_eq_false c32
       clear c32
       by_cases c36 : (wrap64 ((wrap64 ((wrap64 ((wrap64 ((wrap64 ((bt a0 a1))) - 192)) * 64)) + (wrap64 (bt a0 (ji25))))) - 128)) ≥ 1040
       rotate_left
       ·rw [if_neg c36] at H
        have c36b0 : decide (1040 ≤ (wrap64 ((wrap64 ((wrap64 ((wrap64 ((wrap64 ((bt a0 a1))) - 192)) * 64)) + (wrap64 (bt a0 (ji25))))) - 128))) = false := decide_eq_false c36
        clear c36
        obtain rfl := Option.some.inj H
        have p28 : 0 ≤ ((ji25) : Int) := zO
        have q28 : (ji25) < (a0.size : Int) := zO
        have hx28 := bt_at a0 (ji25)
        replace p28 := eq_true p28
        replace q28 := eq_true q28
        go_wp2
        go_ret
        exact zH39
       rw [if_pos c36] at H
       have c36b0 : decide (1040 ≤ (wrap64 ((wrap64 ((wrap64 ((wrap64 ((wrap64 ((bt a0 a1))) - 192)) * 64)) + (wrap64 (bt a0 (ji25))))) - 128))) = true := decide_eq_true c36
       clear c36
       by_cases c37 : (wrap64 ((wrap64 ((wrap64 ((wrap64 ((wrap64 ((bt a0 a1))) - 192)) * 64)) + (wrap64 (bt a0 (ji25))))) - 128)) ≤ 1103
       rotate_left
       ·rw [if_neg c37] at H
        have c37b0 := decide_eq_false c37
        clear c37
        obtain rfl := Option.some.inj H
        have p28 : 0 ≤ ((ji25) : Int) := zO
        have q28 : (ji25) < (a0.size : Int) := zO
        have hx28 := bt_at a0 (ji25)
        replace p28 := eq_true p28
        replace q28 := eq_true q28
        go_wp2
        go_ret
        exact zH39
       rw [if_pos c37] at H
       have c37b0 := decide_eq_true c37
       clear c37
       obtain rfl := Option.some.inj H
       have p28 : 0 ≤ ((ji25) : Int) := zO
       have q28 : (ji25) < (a0.size : Int) := zO
       have hx28 := bt_at a0 (ji25)
       replace p28 := eq_true p28
       replace q28 := eq_true q28
       go_wp2
       go_ret
       exact zH39
      rw [if_pos c32] at H
      have c32b0 : decide (913 ≤ (wrap64 ((wrap64 ((wrap64 ((wrap64 ((wrap64 ((bt a0 a1))) - 192)) * 64)) + (wrap64 (bt a0 (ji25))))) - 128))) = true := decide_eq_true c32
      clear c32
      by_cases c33 : (wrap64 ((wrap64 ((wrap64 ((wrap64 ((wrap64 ((bt a0 a1))) - 192)) * 64)) + (wrap64 (bt a0 (ji25))))) - 128)) ≤ 969
      ·rw [if_pos c33] at H
       have c33b0 := decide_eq_true c33
       clear c33
       obtain rfl := Option.some.inj H
       have p28 : 0 ≤ ((ji25) : Int) := zO
       have q28 : (ji25) < (a0.size : Int) := zO
       have hx28 := bt_at a0 (ji25)
       replace p28 := eq_true p28
       replace q28 := eq_true q28
       go_wp2
       go_ret
       exact zH39
      rw [if_neg c33] at H
      have c33b0 := decide_eq_false c33
      clear c33
      by_cases c34 : (wrap64 ((wrap64 ((wrap64 ((wrap64 ((wrap64 ((bt a0 a1))) - 192)) * 64)) + (wrap64 (bt a0 (ji25))))) - 128)) ≥ 1040
      rotate_left
      ·rw [if_neg c34] at H
       have c34b0 : decide (1040 ≤ (wrap64 ((wrap64 ((wrap64 ((wrap64 ((wrap64 ((bt a0 a1))) - 192)) * 64)) + (wrap64 (bt a0 (ji25))))) - 128))) = false := decide_eq_false c34
       clear c34
       obtain rfl := Option.some.inj H
       have p28 : 0 ≤ ((ji25) : Int) := zO
       have q28 : (ji25) < (a0.size : Int) := zO
       have hx28 := bt_at a0 (ji25)
       replace p28 := eq_true p28
       replace q28 := eq_true q28
       go_wp2
       go_ret
       exact zH39
      rw [if_pos c34] at H
      have c34b0 : decide (1040 ≤ (wrap64 ((wrap64 ((wrap64 ((wrap64 ((wrap64 ((bt a0 a1))) - 192)) * 64)) + (wrap64 (bt a0 (ji25))))) - 128))) = true := decide_eq_true c34
      clear c34
      by_cases c35 : (wrap64 ((wrap64 ((wrap64 ((wrap64 ((wrap64 ((bt a0 a1))) - 192)) * 64)) + (wrap64 (bt a0 (ji25))))) - 128)) ≤ 1103
      rotate_left
      ·rw [if_neg c35] at H
       have c35b0 := decide_eq_false c35
       clear c35
       obtain rfl := Option.some.inj H
       have p28 : 0 ≤ ((ji25) : Int) := zO
       have q28 : (ji25) < (a0.size : Int) := zO
       have hx28 := bt_at a0 (ji25)
       replace p28 := eq_true p28
       replace q28 := eq_true q28
       go_wp2
       go_ret
       exact zH39
      rw [if_pos c35] at H
      have c35b0 := decide_eq_true c35
      clear c35
      obtain rfl := Option.some.inj H
      have p28 : 0 ≤ ((ji25) : Int) := zO
      have q28 : (ji25) < (a0.size : Int) := zO
      have hx28 := bt_at a0 (ji25)
      replace p28 := eq_true p28
      replace q28 := eq_true q28
      go_wp2
      go_ret
      exact zH39
     rw [if_neg c31] at H
     have c31b0 : ((wrap64 ((wrap64 ((wrap64 ((wrap64 ((wrap64 ((bt a0 a1))) - 192)) * 64)) + (wrap64 (bt a0 (ji25))))) - 128)) == 215) = false := beq_eq_false_iff_ne.mpr c31
     have c31b1 : ((wrap64 ((wrap64 ((wrap64 ((wrap64 ((wrap64 ((bt a0 a1))) - 192)) * 64)) + (wrap64 (bt a0 (ji25))))) - 128)) != 215) = true := bne_iff_ne.mpr c31
     by_cases c38 : (wrap64 ((wrap64 ((wrap64 ((wrap64 ((wrap64 ((bt a0 a1))) - 192)) * 64)) + (wrap64 (bt a0 (ji25))))) - 128)) = 247
     rotate_left
     ·rw [if_neg c38] at H
      have c38b0 : ((wrap64 ((wrap64 ((wrap64 ((wrap64 ((wrap64 ((bt a0 a1))) - 192)) * 64)) + (wrap64 (bt a0 (ji25))))) - 128)) == 247) = false := beq_eq_false_iff_ne.mpr c38
      have c38b1 : ((wrap64 ((wrap64 ((wrap64 ((wrap64 ((wrap64 ((bt a0 a1))) - 192)) * 64)) + (wrap64 (bt a0 (ji25))))) - 128)) != 247) = true := bne_iff_ne.mpr c38
      obtain rfl := Option.some.inj H
      have p28 : 0 ≤ ((ji25) : Int) := zO
      have q28 : (ji25) < (a0.size : Int) := zO
      have hx28 := bt_at a0 (ji25)
      replace p28 := eq_true p28
      replace q28 := eq_true q28
      go_wp2
      go_ret
      exact zH39
     rw [if_pos c38] at H
     have c38b0 : ((wrap64 ((wrap64 ((wrap64 ((wrap64 ((wrap64 ((bt a0 a1))) - 192)) * 64)) + (wrap64 (bt a0 (ji25))))) - 128)) == 247) = true := beq_iff_eq.mpr c38
     have c38b1 : ((wrap64 ((wrap64 ((wrap64 ((wrap64 ((wrap64 ((bt a0 a1))) - 192)) * 64)) + (wrap64 (bt a0 (ji25))))) - 128)) != 247) = false := bne_eq_false_iff_eq.mpr c38
     clear c38
     by_cases c39 : (wrap64 ((wrap64 ((wrap64 ((wrap64 ((wrap64 ((bt a0 a1))) - 192)) * 64)) + (wrap64 (bt a0 (ji25))))) - 128)) ≥ 913
     rotate_left
     ·rw [if_neg c39] at H
      have c39b0 : decide (913 ≤ (wrap64 ((wrap64 ((wrap64 ((wrap64 ((wrap64 ((bt a0 a1))) - 192)) * 64)) + (wrap64 (bt a0 (ji25))))) - 128))) = false := decide_eq_false c39
      clear c39
      by_cases c43 : (wrap64 ((wrap64 ((wrap64 ((wrap64 ((wrap64 ((bt a0 a1))) - 192)) * 64)) + (wrap64 (bt a0 (ji25))))) - 128)) ≥ 1040
      rotate_left
      ·rw [if_neg c43] at H
       have c43b0 : decide (1040 ≤ (wrap64 ((wrap64 ((wrap64 ((wrap64 ((wrap64 ((bt a0 a1))) - 192)) * 64)) + (wrap64 (bt a0 (ji25))))) - 128))) = false := decide_eq_false c43
       clear c43
       obtain rfl := Option.some.inj H
       have p28 : 0 ≤ ((ji25) : Int) := zO
       have q28 : (ji25) < (a0.size : Int) := zO
       have hx28 := bt_at a0 (ji25)
       replace p28 := eq_true p28
       replace q28 := eq_true q28
       go_wp2
       go_ret
       exact zH39
      rw [if_pos c43] at H
      have c43b0 : decide (1040 ≤ (wrap64 ((wrap64 ((wrap64 ((wrap64 ((wrap64 ((bt a0 a1))) - 192)) * 64)) + (wrap64 (bt a0 (ji25))))) - 128))) = true := decide_eq_true c43
      clear c43
      by_cases c44 : (wrap64 ((wrap64 ((wrap64 ((wrap64 ((wrap64 ((bt a0 a1))) - 192)) * 64)) + (wrap64 (bt a0 (ji25))))) - 128)) ≤ 1103
      rotate_left
      ·rw [if_neg c44] at H
       have c44b0 := decide_eq_false c44
       clear c44
       obtain rfl := Option.some.inj H
       have p28 : 0 ≤ ((ji25) : Int) := zO
       have q28 : (ji25) < (a0.size : Int) := zO
       have hx28 := bt_at a0 (ji25)
       replace p28 := eq_true p28
       replace q28 := eq_true q28
       go_wp2
       go_ret
       exact zH39
      rw [if_pos c44] at H
      have c44b0 := decide_eq_true c44
      clear c44
      obtain rfl := Option.some.inj H
      have p28 : 0 ≤ ((ji25) : Int) := zO
      have q28 : (ji25) < (a0.size : Int) := zO
      have hx28 := bt_at a0 (ji25)
      replace p28 := eq_true p28
      replace q28 := eq_true q28
      go_wp2
      go_ret
      exact zH39
     rw [if_pos c39] at H
     have c39b0 : decide (913 ≤ (wrap64 ((wrap64 ((wrap64 ((wrap64 ((wrap64 ((bt a0 a1))) - 192)) * 64)) + (wrap64 (bt a0 (ji25))))) - 128))) = true := decide_eq_true c39
     clear c39
     by_cases c40 : (wrap64 ((wrap64 ((wrap64 ((wrap64 ((wrap64 ((bt a0 a1))) - 192)) * 64)) + (wrap64 (bt a0 (ji25))))) - 128)) ≤ 969
     ·rw [if_pos c40] at H
      have c40b0 := decide_eq_true c40
      clear c40
      obtain rfl := Option.some.inj H
      have p28 : 0 ≤ ((ji25) : Int) := zO
      have q28 : (ji25) < (a0.size : Int) := zO
      have hx28 := bt_at a0 (ji25)
      replace p28 := eq_true p28
      replace q28 := eq_true q28
      go_wp2
      go_ret
      exact zH39
     rw [if_neg c40] at H
     have c40b0 := decide_eq_false c40
     clear c40
     by_cases c41 : (wrap64 ((wrap64 ((wrap64 ((wrap64 ((wrap64 ((bt a0 a1))) - 192)) * 64)) + (wrap64 (bt a0 (ji25))))) - 128)) ≥ 1040
     rotate_left
     ·rw [if_neg c41] at H
      have c41b0 : decide (1040 ≤ (wrap64 ((wrap64 ((wrap64 ((wrap64 ((wrap64 ((bt a0 a1))) - 192)) * 64)) + (wrap64 (bt a0 (ji25))))) - 128))) = false := decide_eq_false c41
      clear c41
      obtain rfl := Option.some.inj H
      have p28 : 0 ≤ ((ji25) : Int) := zO
      have q28 : (ji25) < (a0.size : Int) := zO
      have hx28 := bt_at a0 (ji25)
      replace p28 := eq_true p28
      replace q28 := eq_true q28
      go_wp2
      go_ret
      exact zH39
     rw [if_pos c41] at H
     have c41b0 : decide (1040 ≤ (wrap64 ((wrap64 ((wrap64 ((wrap64 ((wrap64 ((bt a0 a1))) - 192)) * 64)) + (wrap64 (bt a0 (ji25))))) - 128))) = true := decide_eq_true c41
     clear c41
     by_cases c42 : (wrap64 ((wrap64 ((wrap64 ((wrap64 ((wrap64 ((bt a0 a1))) - 192)) * 64)) + (wrap64 (bt a0 (ji25))))) - 128)) ≤ 1103
     rotate_left
     ·rw [if_neg c42] at H
      have c42b0 := decide_eq_false c42
      clear c42
      obtain rfl := Option.some.inj H
      have p28 : 0 ≤ ((ji25) : Int) := zO
      have q28 : (ji25) < (a0.size : Int) := zO
      have hx28 := bt_at a0 (ji25)
      replace p28 := eq_true p28
      replace q28 := eq_true q28
      go_wp2
      go_ret
      exact zH39
     rw [if_pos c42] at H
     have c42b0 := decide_eq_true c42
     clear c42
     obtain rfl := Option.some.inj H
     have p28 : 0 ≤ ((ji25) : Int) := zO
     have q28 : (ji25) < (a0.size : Int) := zO
     have hx28 := bt_at a0 (ji25)
     replace p28 := eq_true p28
     replace q28 := eq_true q28
     go_wp2
     go_ret
     exact zH39
end Go.Proofs.Ytoibmbkmpadmnaa.G
