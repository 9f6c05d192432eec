-- squeezed
-- made by pp.py (wip/tools) out of the translation; Lean checks it
import Derived.Test.YtdohpbhljifodaaD0
import Derived.Test.YtdohpbhljifodaaD2
import Derived.Test.YtdohpbhljifodaaD3
import Derived.Test.YtdohpbhljifodaaD6
namespace Go.Proofs.Ytdohpbhljifodaa.D
open Go.RowKit Go.Proofs.YtdohpbhljifodaaW.PrintWords Go.Proofs.YtdohpbhljifodaaW.PrintLast Go.Proofs.YtdohpbhljifodaaW.PrintMore
attribute [local go_sem] max2_int min2_int max_two min_two max_three min_three max_four min_four   -- for this text's walks alone
set_option linter.unusedVariables false
set_option linter.unusedSimpArgs false


/-! ### laws_FnCarts: function 3 -/
mutual
def laws_FnCarts.j0 : Nat → List Int → List Int → Bool → Option (Bool)
 | 0, _, _, _ => none
 | k + 1, x0, x1, x21 => if x21 = true then (some true) else ((spec_CartsOf.f k x0).bind fun bt212 => ((laws_at.f x1 0 (wrap64 ((bt212.2.length : Int) + 1))).bind fun t216 => (if 0 ≤ t216 then (if t216 ≤ (bt212.2.length : Int) then ((impl_CartRun.f k bt212.1 (bt212.2.take (t216 : Int).toNat)).bind fun bt221 => (if bt221.2.2.2.2.2 = 0 then (if (bt221.1.length : Int) = t216 then (if t216 > 0 then (if 0 ≤ (wrap64 (t216 - 1)) then (if (wrap64 (t216 - 1)) < (bt221.1.length : Int) then (if ((rd_T34 bt221.1 (wrap64 (t216 - 1))).f1) = bt221.2.2.1 then (if t216 = 0 then (laws_FnCarts.j1 k bt212.1 (bt221.2.2.1 != bt212.1) bt221.2.1 bt221.2.2.1 bt221.2.2.2.1 bt221.2.2.2.2.1) else (laws_FnCarts.j1 k bt212.1 false bt221.2.1 bt221.2.2.1 bt221.2.2.2.1 bt221.2.2.2.2.1)) else (laws_FnCarts.j1 k bt212.1 true bt221.2.1 bt221.2.2.1 bt221.2.2.2.1 bt221.2.2.2.2.1)) else (none)) else (none)) else (if t216 = 0 then (laws_FnCarts.j1 k bt212.1 (bt221.2.2.1 != bt212.1) bt221.2.1 bt221.2.2.1 bt221.2.2.2.1 bt221.2.2.2.2.1) else (laws_FnCarts.j1 k bt212.1 false bt221.2.1 bt221.2.2.1 bt221.2.2.2.1 bt221.2.2.2.2.1))) else (laws_FnCarts.j1 k bt212.1 true bt221.2.1 bt221.2.2.1 bt221.2.2.2.1 bt221.2.2.2.2.1)) else (laws_FnCarts.j1 k bt212.1 true bt221.2.1 bt221.2.2.1 bt221.2.2.2.1 bt221.2.2.2.2.1))) else (none)) else (none))))
def laws_FnCarts.j1 : Nat → Int → Bool → Int → Int → Int → List (S36) → Option (Bool)
 | 0, _, _, _, _, _, _ => none
 | k + 1, x5, x73, x232000, x232001, x232002, x232003 => if x73 = true then (some false) else (laws_FnCarts.l0 k x5 (wrap64 (x232001 + x232002)) 0 x232000 x232001 x232002 x232003)
def laws_FnCarts.l0 : Nat → Int → Int → Int → Int → Int → Int → List (S36) → Option (Bool)
 | 0, _, _, _, _, _, _, _ => none
 | k + 1, x5, x11, x12, x232000, x232001, x232002, x232003 => if x12 < (x232003.length : Int) then (if 0 ≤ x12 then (if ((rd_T36 x232003 x12).f1) < 1 then (some false) else (if ((rd_T36 x232003 x12).f2) ≤ x232000 then (some false) else (laws_FnCarts.l0 k x5 (wrap64 (x11 + ((rd_T36 x232003 x12).f1))) (wrap64 (x12 + 1)) x232000 x232001 x232002 x232003))) else (none)) else (if x11 = x5 then (if x232001 ≥ 0 then (some (decide (x232002 ≥ 0))) else (some false)) else (some false))
end
def laws_FnCarts.f (k : Nat) (l0 : List Int) (l1 : List Int) : Option (Bool) := if (l0.length : Int) > 1048576 then (laws_FnCarts.j0 k l0 l1 true) else (laws_FnCarts.j0 k l0 l1 (decide ((l1.length : Int) > 1048576)))
theorem laws_FnCarts.mono_l : ∀ k, (∀ y0 y1 y2, LeO (laws_FnCarts.j0 k y0 y1 y2) (laws_FnCarts.j0 (k + 1) y0 y1 y2)) ∧ (∀ y0 y1 y2 y3 y4 y5, LeO (laws_FnCarts.j1 k y0 y1 y2 y3 y4 y5) (laws_FnCarts.j1 (k + 1) y0 y1 y2 y3 y4 y5)) ∧ (∀ y0 y1 y2 y3 y4 y5 y6, LeO (laws_FnCarts.l0 k y0 y1 y2 y3 y4 y5 y6) (laws_FnCarts.l0 (k + 1) y0 y1 y2 y3 y4 y5 y6))
 | 0 => ⟨fun _ _ _ r h => by simp [laws_FnCarts.j0] at h, fun _ _ _ _ _ _ r h => by simp [laws_FnCarts.j1] at h, fun _ _ _ _ _ _ _ r h => by simp [laws_FnCarts.l0] at h⟩
 | k + 1 => by
  obtain ⟨ih0, ih1, ih2⟩ := laws_FnCarts.mono_l k
  refine ⟨?_, ?_, ?_⟩
  ·intro y0 y1 y2
   unfold laws_FnCarts.j0
   repeat' first
   | (with_reducible exact ih0 _ _ _)
   | (with_reducible exact ih1 _ _ _ _ _ _)
   | (with_reducible exact ih2 _ _ _ _ _ _ _)
   | (with_reducible exact impl_CartRun.mono _ _ _)
   | (with_reducible exact spec_CartsOf.mono _ _)
   | (with_reducible exact LeO.refl _)
   | (with_reducible exact LeO.none _)
   | (with_reducible refine LeO.ite ?_ ?_)
   | (with_reducible refine LeO.bind ?_ (fun _ => ?_))
   | exact ih0 _ _ _
   | exact ih1 _ _ _ _ _ _
   | exact ih2 _ _ _ _ _ _ _
   | exact impl_CartRun.mono _ _ _
   | exact spec_CartsOf.mono _ _
   | exact LeO.none _
   | refine LeO.ite ?_ ?_
   | refine LeO.bind ?_ (fun _ => ?_)
  ·intro y0 y1 y2 y3 y4 y5
   unfold laws_FnCarts.j1
   repeat' first
   | (with_reducible exact ih0 _ _ _)
   | (with_reducible exact ih1 _ _ _ _ _ _)
   | (with_reducible exact ih2 _ _ _ _ _ _ _)
   | (with_reducible exact impl_CartRun.mono _ _ _)
   | (with_reducible exact spec_CartsOf.mono _ _)
   | (with_reducible exact LeO.refl _)
   | (with_reducible exact LeO.none _)
   | (with_reducible refine LeO.ite ?_ ?_)
   | (with_reducible refine LeO.bind ?_ (fun _ => ?_))
   | exact ih0 _ _ _
   | exact ih1 _ _ _ _ _ _
   | exact ih2 _ _ _ _ _ _ _
   | exact impl_CartRun.mono _ _ _
   | exact spec_CartsOf.mono _ _
   | exact LeO.none _
   | refine LeO.ite ?_ ?_
   | refine LeO.bind ?_ (fun _ => ?_)
  ·intro y0 y1 y2 y3 y4 y5 y6
   unfold laws_FnCarts.l0
   repeat' first
   | (with_reducible exact ih0 _ _ _)
   | (with_reducible exact ih1 _ _ _ _ _ _)
   | (with_reducible exact ih2 _ _ _ _ _ _ _)
   | (with_reducible exact impl_CartRun.mono _ _ _)
   | (with_reducible exact spec_CartsOf.mono _ _)
   | (with_reducible exact LeO.refl _)
   | (with_reducible exact LeO.none _)
   | (with_reducible refine LeO.ite ?_ ?_)
   | (with_reducible refine LeO.bind ?_ (fun _ => ?_))
   | exact ih0 _ _ _
   | exact ih1 _ _ _ _ _ _
   | exact ih2 _ _ _ _ _ _ _
   | exact impl_CartRun.mono _ _ _
   | exact spec_CartsOf.mono _ _
   | exact LeO.none _
   | refine LeO.ite ?_ ?_
   | refine LeO.bind ?_ (fun _ => ?_)
theorem laws_FnCarts.mono : ∀ a0 a1 k, LeO (laws_FnCarts.f k a0 a1) (laws_FnCarts.f (k + 1) a0 a1) := by
 intro a0 a1 k
 obtain ⟨ih0, ih1, ih2⟩ := laws_FnCarts.mono_l k
 unfold laws_FnCarts.f
 repeat' first
   | (with_reducible exact ih0 _ _ _)
   | (with_reducible exact ih1 _ _ _ _ _ _)
   | (with_reducible exact ih2 _ _ _ _ _ _ _)
   | (with_reducible exact impl_CartRun.mono _ _ _)
   | (with_reducible exact spec_CartsOf.mono _ _)
   | (with_reducible exact LeO.refl _)
   | (with_reducible exact LeO.none _)
   | (with_reducible refine LeO.ite ?_ ?_)
   | (with_reducible refine LeO.bind ?_ (fun _ => ?_))
   | exact ih0 _ _ _
   | exact ih1 _ _ _ _ _ _
   | exact ih2 _ _ _ _ _ _ _
   | exact impl_CartRun.mono _ _ _
   | exact spec_CartsOf.mono _ _
   | exact LeO.none _
   | refine LeO.ite ?_ ?_
   | refine LeO.bind ?_ (fun _ => ?_)
set_option maxHeartbeats 64000000 in
set_option maxRecDepth 100000 in
theorem laws_FnCarts.calls (k : Nat) (A0 : Option Addr) (c0 : Nat) (l0 : List Int) (A1 : Option Addr) (c1 : Nat) (l1 : List Int) (r : Bool) (w : World) (hr0 : Kd.C (Kd.int .u8) w A0 l0.length l0) (hc0 : l0.length ≤ c0) (hr1 : Kd.C (Kd.int .u8) w A1 l1.length l1) (hc1 : l1.length ≤ c1) (h : laws_FnCarts.f k l0 l1 = some r) :
  Calls Try.prog 3 #[.slice A0 l0.length c0, .slice A1 l1.length c1] w fun e w' => e = .returned (.bool r) ∧ Below w.heap.size w w' := by
 have hu30 := Try.underlying30
 have hu36 := Try.underlying36
 obtain ⟨HR0, HC0, HR1, HC1, HB⟩ := zD5 hr0 hc0 hr1 hc1 (Below.refl w.heap.size w)
 clear hr0 hc0 hr1 hc1
 have H : (if (l0.length : Int) > 1048576 then (laws_FnCarts.j0 k l0 l1 true) else (laws_FnCarts.j0 k l0 l1 (decide ((l1.length : Int) > 1048576)))) = some r := h
 clear h
 have HC3 := za H
 clear H
 go_enter Try.func3, Try.ntmps3
 go_upto_region 1 with (fail)
 repeat (go_quiet (fail); go_upto_region 1 with (fail))
 go_cut [21] (fun v21 wc => ∃ (kq : Nat) (x21_2 : Bool), v21 = .bool x21_2 ∧ Aside0 (laws_FnCarts.j0 kq l0 l1 x21_2 = some r) ∧ Aside0 (kq ≤ k) ∧ Aside0 (Below w.heap.size w wc))
 case first =>
  have H := HC3.out
  clear HC3
  by_cases c4 : (l0.length : Int) > 1048576
  rotate_left
  ·rw [if_neg c4] at H
   have c4b0 : decide (1048576 < (l0.length : Int)) = false := decide_eq_false c4
   have c4b1 : decide (1048576 < l0.length) = false := decide_eq_false (by omega)
   clear c4
   (first | rw [c4b0] | (simp only [i64_w, i32_w]; rw [c4b0]) | skip)
   have H' := za H
   clear H
   go_wp2
   repeat (go_quiet (fail); try go_wp2)
   go_meet
   case rel => exact ⟨_, (decide ((l1.length : Int) > 1048576)), zK71, H', ⟨zH38⟩, ⟨zH29⟩⟩
  rw [if_pos c4] at H
  have c4b0 : decide (1048576 < (l0.length : Int)) = true := decide_eq_true c4
  have c4b1 : decide (1048576 < l0.length) = true := decide_eq_true (by omega)
  clear c4
  (first | rw [c4b0] | (simp only [i64_w, i32_w]; rw [c4b0]) | skip)
  have H' := za H
  clear H
  go_wp2
  repeat (go_quiet (fail); try go_wp2)
  go_meet
  case rel => exact ⟨_, (true), zK71, H', ⟨zH38⟩, ⟨zH29⟩⟩
 case rest =>
  clear HC3
  try clear c1
  try clear c4
  try clear c4b0
  try clear c4b1
  obtain ⟨kq, x21_2, rfl, HA, HJ2, HB⟩ := hcut
  cases kq with
  | zero => exact absurd HA.out (by simp [laws_FnCarts.j0])
  | succ kj2 =>
   have H := HA.out
   clear HA
   simp only [laws_FnCarts.j0] at H
   by_cases c5 : x21_2 = true
   ·subst c5
    have H1 : (some true) = some r := by rw [if_pos rfl] at H; exact H
    clear H
    have H := H1
    clear H1
    obtain rfl := Option.some.inj H
    go_wp2
    repeat (go_quiet (fail); try go_wp2)
    go_ret
    exact ⟨zH33, zH29⟩
   replace c5 := Bool.eq_false_iff.mpr c5
   subst c5
   have H1 : ((spec_CartsOf.f kj2 l0).bind fun bt212 => ((laws_at.f l1 0 (wrap64 ((bt212.2.length : Int) + 1))).bind fun t216 => (if 0 ≤ t216 then (if t216 ≤ (bt212.2.length : Int) then ((impl_CartRun.f kj2 bt212.1 (bt212.2.take (t216 : Int).toNat)).bind fun bt221 => (if bt221.2.2.2.2.2 = 0 then (if (bt221.1.length : Int) = t216 then (if t216 > 0 then (if 0 ≤ (wrap64 (t216 - 1)) then (if (wrap64 (t216 - 1)) < (bt221.1.length : Int) then (if ((rd_T34 bt221.1 (wrap64 (t216 - 1))).f1) = bt221.2.2.1 then (if t216 = 0 then (laws_FnCarts.j1 kj2 bt212.1 (bt221.2.2.1 != bt212.1) bt221.2.1 bt221.2.2.1 bt221.2.2.2.1 bt221.2.2.2.2.1) else (laws_FnCarts.j1 kj2 bt212.1 false bt221.2.1 bt221.2.2.1 bt221.2.2.2.1 bt221.2.2.2.2.1)) else (laws_FnCarts.j1 kj2 bt212.1 true bt221.2.1 bt221.2.2.1 bt221.2.2.2.1 bt221.2.2.2.2.1)) else (none)) else (none)) else (if t216 = 0 then (laws_FnCarts.j1 kj2 bt212.1 (bt221.2.2.1 != bt212.1) bt221.2.1 bt221.2.2.1 bt221.2.2.2.1 bt221.2.2.2.2.1) else (laws_FnCarts.j1 kj2 bt212.1 false bt221.2.1 bt221.2.2.1 bt221.2.2.2.1 bt221.2.2.2.2.1))) else (laws_FnCarts.j1 kj2 bt212.1 true bt221.2.1 bt221.2.2.1 bt221.2.2.2.1 bt221.2.2.2.2.1)) else (laws_FnCarts.j1 kj2 bt212.1 true bt221.2.1 bt221.2.2.1 bt221.2.2.2.1 bt221.2.2.2.2.1))) else (none)) else (none)))) = some r := by rw [if_neg (show ¬ (false = true) by decide)] at H; exact H
   clear H
   have H := H1
   clear H1
   replace H := Option.bind_eq_some_iff.mp H
   obtain ⟨⟨t212, t213⟩, A60, H⟩ := H
   replace H : ((laws_at.f l1 0 (wrap64 ((t213.length : Int) + 1))).bind fun t216 => (if 0 ≤ t216 then (if t216 ≤ (t213.length : Int) then ((impl_CartRun.f kj2 t212 (t213.take (t216 : Int).toNat)).bind fun bt221 => (if bt221.2.2.2.2.2 = 0 then (if (bt221.1.length : Int) = t216 then (if t216 > 0 then (if 0 ≤ (wrap64 (t216 - 1)) then (if (wrap64 (t216 - 1)) < (bt221.1.length : Int) then (if ((rd_T34 bt221.1 (wrap64 (t216 - 1))).f1) = bt221.2.2.1 then (if t216 = 0 then (laws_FnCarts.j1 kj2 t212 (bt221.2.2.1 != t212) bt221.2.1 bt221.2.2.1 bt221.2.2.2.1 bt221.2.2.2.2.1) else (laws_FnCarts.j1 kj2 t212 false bt221.2.1 bt221.2.2.1 bt221.2.2.2.1 bt221.2.2.2.2.1)) else (laws_FnCarts.j1 kj2 t212 true bt221.2.1 bt221.2.2.1 bt221.2.2.2.1 bt221.2.2.2.2.1)) else (none)) else (none)) else (if t216 = 0 then (laws_FnCarts.j1 kj2 t212 (bt221.2.2.1 != t212) bt221.2.1 bt221.2.2.1 bt221.2.2.2.1 bt221.2.2.2.2.1) else (laws_FnCarts.j1 kj2 t212 false bt221.2.1 bt221.2.2.1 bt221.2.2.2.1 bt221.2.2.2.2.1))) else (laws_FnCarts.j1 kj2 t212 true bt221.2.1 bt221.2.2.1 bt221.2.2.2.1 bt221.2.2.2.2.1)) else (laws_FnCarts.j1 kj2 t212 true bt221.2.1 bt221.2.2.1 bt221.2.2.2.1 bt221.2.2.2.2.1))) else (none)) else (none))) = some r := H
   have A6 := za A60
   clear A60
   replace H := Option.bind_eq_some_iff.mp H
   obtain ⟨t216, A70, H⟩ := H
   replace H : (if 0 ≤ t216 then (if t216 ≤ (t213.length : Int) then ((impl_CartRun.f kj2 t212 (t213.take (t216 : Int).toNat)).bind fun bt221 => (if bt221.2.2.2.2.2 = 0 then (if (bt221.1.length : Int) = t216 then (if t216 > 0 then (if 0 ≤ (wrap64 (t216 - 1)) then (if (wrap64 (t216 - 1)) < (bt221.1.length : Int) then (if ((rd_T34 bt221.1 (wrap64 (t216 - 1))).f1) = bt221.2.2.1 then (if t216 = 0 then (laws_FnCarts.j1 kj2 t212 (bt221.2.2.1 != t212) bt221.2.1 bt221.2.2.1 bt221.2.2.2.1 bt221.2.2.2.2.1) else (laws_FnCarts.j1 kj2 t212 false bt221.2.1 bt221.2.2.1 bt221.2.2.2.1 bt221.2.2.2.2.1)) else (laws_FnCarts.j1 kj2 t212 true bt221.2.1 bt221.2.2.1 bt221.2.2.2.1 bt221.2.2.2.2.1)) else (none)) else (none)) else (if t216 = 0 then (laws_FnCarts.j1 kj2 t212 (bt221.2.2.1 != t212) bt221.2.1 bt221.2.2.1 bt221.2.2.2.1 bt221.2.2.2.2.1) else (laws_FnCarts.j1 kj2 t212 false bt221.2.1 bt221.2.2.1 bt221.2.2.2.1 bt221.2.2.2.2.1))) else (laws_FnCarts.j1 kj2 t212 true bt221.2.1 bt221.2.2.1 bt221.2.2.2.1 bt221.2.2.2.2.1)) else (laws_FnCarts.j1 kj2 t212 true bt221.2.1 bt221.2.2.1 bt221.2.2.2.1 bt221.2.2.2.2.1))) else (none)) else (none)) = some r := H
   have A7 := za A70
   clear A70
   by_cases c8 : 0 ≤ t216
   rotate_left
   ·rw [if_neg c8] at H
    exact absurd H (by simp)

   rw [if_pos c8] at H
   have c8b0 := eq_true c8
   have c8b1 := decide_eq_true c8
   clear c8
   by_cases c9 : t216 ≤ (t213.length : Int)
   rotate_left
   ·rw [if_neg c9] at H
    exact absurd H (by simp)
   rw [if_pos c9] at H
   have c9b0 := eq_true c9
   have c9b1 := decide_eq_true c9
   clear c9
   obtain ⟨y217, hy217⟩ : ∃ y_ : List (S54), y_ = (t213.take (t216 : Int).toNat) := ⟨_, rfl⟩
   replace H : ((impl_CartRun.f kj2 t212 y217).bind fun bt221 => (if bt221.2.2.2.2.2 = 0 then (if (bt221.1.length : Int) = t216 then (if t216 > 0 then (if 0 ≤ (wrap64 (t216 - 1)) then (if (wrap64 (t216 - 1)) < (bt221.1.length : Int) then (if ((rd_T34 bt221.1 (wrap64 (t216 - 1))).f1) = bt221.2.2.1 then (if t216 = 0 then (laws_FnCarts.j1 kj2 t212 (bt221.2.2.1 != t212) bt221.2.1 bt221.2.2.1 bt221.2.2.2.1 bt221.2.2.2.2.1) else (laws_FnCarts.j1 kj2 t212 false bt221.2.1 bt221.2.2.1 bt221.2.2.2.1 bt221.2.2.2.2.1)) else (laws_FnCarts.j1 kj2 t212 true bt221.2.1 bt221.2.2.1 bt221.2.2.2.1 bt221.2.2.2.2.1)) else (none)) else (none)) else (if t216 = 0 then (laws_FnCarts.j1 kj2 t212 (bt221.2.2.1 != t212) bt221.2.1 bt221.2.2.1 bt221.2.2.2.1 bt221.2.2.2.2.1) else (laws_FnCarts.j1 kj2 t212 false bt221.2.1 bt221.2.2.1 bt221.2.2.2.1 bt221.2.2.2.2.1))) else (laws_FnCarts.j1 kj2 t212 true bt221.2.1 bt221.2.2.1 bt221.2.2.2.1 bt221.2.2.2.2.1)) else (laws_FnCarts.j1 kj2 t212 true bt221.2.1 bt221.2.2.1 bt221.2.2.2.1 bt221.2.2.2.2.1))) = some r := by first | (rw [hy217]; with_reducible exact H) | (have H2_ := (Option.bind_some _ _).symm.trans H; rw [hy217]; with_reducible exact H2_) | (have H2_ := (Option.bind_some _ _).symm.trans H; with_reducible exact H2_) | with_reducible exact H | (rw [hy217]; exact H) | exact H
   have Ny217 := za hy217
   clear hy217
   replace H := Option.bind_eq_some_iff.mp H
   obtain ⟨⟨t221, t224, t225, t226, t227, t230⟩, A100, H⟩ := H
   replace H : (if t230 = 0 then (if (t221.length : Int) = t216 then (if t216 > 0 then (if 0 ≤ (wrap64 (t216 - 1)) then (if (wrap64 (t216 - 1)) < (t221.length : Int) then (if ((rd_T34 t221 (wrap64 (t216 - 1))).f1) = t225 then (if t216 = 0 then (laws_FnCarts.j1 kj2 t212 (t225 != t212) t224 t225 t226 t227) else (laws_FnCarts.j1 kj2 t212 false t224 t225 t226 t227)) else (laws_FnCarts.j1 kj2 t212 true t224 t225 t226 t227)) else (none)) else (none)) else (if t216 = 0 then (laws_FnCarts.j1 kj2 t212 (t225 != t212) t224 t225 t226 t227) else (laws_FnCarts.j1 kj2 t212 false t224 t225 t226 t227))) else (laws_FnCarts.j1 kj2 t212 true t224 t225 t226 t227)) else (laws_FnCarts.j1 kj2 t212 true t224 t225 t226 t227)) = some r := H
   obtain ⟨A10, HC11⟩ := zD2 A100 H
   clear A100 H
   go_upto_region 6 with (first | (go_at_call 5; (with_reducible refine (spec_CartsOf.calls kj2 _ _ l0 t212 t213 _ ?side1 ?side2 A6.out).mono ?_); (case side1 => exact zH21); (case side2 => exact HC0.out); rintro e w12 ⟨v214, rfl, ho0, hb⟩; have n_ := zA_ (za (zah ho0 (zs zG58))) (za (zp zG58 hb)); clear HB; obtain ⟨HO215, HB⟩ := n_; (try clear hb); (try clear ho0); obtain ⟨Ao13, co13, eo13⟩ := zab HO215.out; subst eo13) | (go_at_call 6; (with_reducible refine (laws_at.calls _ _ l1 0 (wrap64 ((t213.length : Int) + 1)) t216 _ ?side1 ?side2 A7.out).mono ?_); (case side1 => exact zH22); (case side2 => exact HC1.out); rintro e w' ⟨rfl, ⟨nd, rfl⟩⟩; (try first | exact ⟨rfl, _, World.drewN_drewN _ _ _⟩ | exact ⟨rfl, _, Eq.trans (World.drewN_drewN _ _ _) (congrArg (World.drewN _) (Nat.add_assoc _ _ _))⟩); have q14 : (t216 : Int) ≤ ((t213.length : Int) : Int) := zO; obtain ⟨i014, hi014, _, hsz14, _⟩ := info_parts info54; have hroom14 : t213.length ≤ co13 := (zx HO215.out).2.1; have hC14 : Kd.C k54 _ Ao13 t213.length t213 := (zx HO215.out).2.2; have hcut14 := cut_to (P := Try.prog) 23 54 .i64 Try.underlying23 hi014 Ao13 t213.length co13 t216 zO q14 hroom14; have hr14 := Kd.C_take (m := (t216 : Int).toNat) hC14 (by omega); have hy14 : y217.length = (t216 : Int).toNat := (by rw [Ny217.out, List.length_take]; omega); rw [← Ny217.out] at hr14; rw [← hy14] at hcut14; have HR220 := za hr14; have HC220 := za (show y217.length ≤ co13 from by omega); clear hr14 hC14 hroom14 hi014 hsz14; have KY14 := za hy14; clear hy14; have KL14 := za (show (t216 : Int).toNat ≤ t213.length from by omega); replace q14 := eq_true q14) | (go_at_call 7; (with_reducible refine (impl_CartRun.calls kj2 t212 _ _ y217 t221 t224 t225 t226 t227 t230 _ ?side1 ?side2 A10.out).mono ?_); (case side1 => exact zH6); (case side2 => exact HC220.out); rintro e w15 ⟨v222, v228, rfl, ho0, ho1, hb⟩; have n_ := zA_ (za (zt zK67 hb)) (zA_ (za (zah ho0 (zs zG58))) (zA_ (za (zah ho1 (zs zG58))) (zA_ (za (zag zK50 hb)) (za (zp zG58 hb))))); clear HO215 HR220 HB; obtain ⟨HO215, HO223, HO229, HR220, HB⟩ := n_; (try clear hb); (try clear ho0); (try clear ho1)) | ((with_reducible refine gate_dst (N := 9) rfl ?_); (try (refine gate_guard (by rfl) ?_; dsimp only)); refine box_event ?hg (N := 9) ?hd (cs := #[.int .i64 0, .int .i64 0, .int .i64 0, .slice none 0 0]) (t := 30) ?hr ?_; (case hd => rfl); (case hg => rfl); (case hr => exact zH37); intro gb231 hg w16 hbox hb; have n_ := zA_ (za (zt zK67 hb)) (zA_ (za (zt zK68 hb)) (zA_ (za (zt zK69 hb)) (zA_ (za (zag zK50 hb)) (zA_ (za (zp zG58 hb)) (zA_ (za (hbox)) (zA_ (zN1 w.heap.size hg (zs zG58)) (zN1 w.heap.size hg (zs zG58)))))))); clear HO215 HO223 HO229 HR220 HB; obtain ⟨HO215, HO223, HO229, HR220, HB, BK231, GW231, GE231⟩ := n_; clear hb hbox hg; obtain ⟨hcz17_0, hcz17_1, hcz17_2, hcz17_3, hfz17_0, hfz17_1, hfz17_2, hfz17_3⟩ := zB4 BK231.out; obtain ⟨Ao18, co18, eo18⟩ := zab HO229.out; subst eo18))
   repeat (go_quiet (first | (go_at_call 5; (with_reducible refine (spec_CartsOf.calls kj2 _ _ l0 t212 t213 _ ?side1 ?side2 A6.out).mono ?_); (case side1 => exact zH21); (case side2 => exact HC0.out); rintro e w12 ⟨v214, rfl, ho0, hb⟩; have n_ := zA_ (za (zah ho0 (zs zG58))) (za (zp zG58 hb)); clear HB; obtain ⟨HO215, HB⟩ := n_; (try clear hb); (try clear ho0); obtain ⟨Ao13, co13, eo13⟩ := zab HO215.out; subst eo13) | (go_at_call 6; (with_reducible refine (laws_at.calls _ _ l1 0 (wrap64 ((t213.length : Int) + 1)) t216 _ ?side1 ?side2 A7.out).mono ?_); (case side1 => exact zH22); (case side2 => exact HC1.out); rintro e w' ⟨rfl, ⟨nd, rfl⟩⟩; (try first | exact ⟨rfl, _, World.drewN_drewN _ _ _⟩ | exact ⟨rfl, _, Eq.trans (World.drewN_drewN _ _ _) (congrArg (World.drewN _) (Nat.add_assoc _ _ _))⟩); have q14 : (t216 : Int) ≤ ((t213.length : Int) : Int) := zO; obtain ⟨i014, hi014, _, hsz14, _⟩ := info_parts info54; have hroom14 : t213.length ≤ co13 := (zx HO215.out).2.1; have hC14 : Kd.C k54 _ Ao13 t213.length t213 := (zx HO215.out).2.2; have hcut14 := cut_to (P := Try.prog) 23 54 .i64 Try.underlying23 hi014 Ao13 t213.length co13 t216 zO q14 hroom14; have hr14 := Kd.C_take (m := (t216 : Int).toNat) hC14 (by omega); have hy14 : y217.length = (t216 : Int).toNat := (by rw [Ny217.out, List.length_take]; omega); rw [← Ny217.out] at hr14; rw [← hy14] at hcut14; have HR220 := za hr14; have HC220 := za (show y217.length ≤ co13 from by omega); clear hr14 hC14 hroom14 hi014 hsz14; have KY14 := za hy14; clear hy14; have KL14 := za (show (t216 : Int).toNat ≤ t213.length from by omega); replace q14 := eq_true q14) | (go_at_call 7; (with_reducible refine (impl_CartRun.calls kj2 t212 _ _ y217 t221 t224 t225 t226 t227 t230 _ ?side1 ?side2 A10.out).mono ?_); (case side1 => exact zH6); (case side2 => exact HC220.out); rintro e w15 ⟨v222, v228, rfl, ho0, ho1, hb⟩; have n_ := zA_ (za (zt zK67 hb)) (zA_ (za (zah ho0 (zs zG58))) (zA_ (za (zah ho1 (zs zG58))) (zA_ (za (zag zK50 hb)) (za (zp zG58 hb))))); clear HO215 HR220 HB; obtain ⟨HO215, HO223, HO229, HR220, HB⟩ := n_; (try clear hb); (try clear ho0); (try clear ho1)) | ((with_reducible refine gate_dst (N := 9) rfl ?_); (try (refine gate_guard (by rfl) ?_; dsimp only)); refine box_event ?hg (N := 9) ?hd (cs := #[.int .i64 0, .int .i64 0, .int .i64 0, .slice none 0 0]) (t := 30) ?hr ?_; (case hd => rfl); (case hg => rfl); (case hr => exact zH37); intro gb231 hg w16 hbox hb; have n_ := zA_ (za (zt zK67 hb)) (zA_ (za (zt zK68 hb)) (zA_ (za (zt zK69 hb)) (zA_ (za (zag zK50 hb)) (zA_ (za (zp zG58 hb)) (zA_ (za (hbox)) (zA_ (zN1 w.heap.size hg (zs zG58)) (zN1 w.heap.size hg (zs zG58)))))))); clear HO215 HO223 HO229 HR220 HB; obtain ⟨HO215, HO223, HO229, HR220, HB, BK231, GW231, GE231⟩ := n_; clear hb hbox hg; obtain ⟨hcz17_0, hcz17_1, hcz17_2, hcz17_3, hfz17_0, hfz17_1, hfz17_2, hfz17_3⟩ := zB4 BK231.out; obtain ⟨Ao18, co18, eo18⟩ := zab HO229.out; subst eo18)); go_upto_region 6 with (first | (go_at_call 5; (with_reducible refine (spec_CartsOf.calls kj2 _ _ l0 t212 t213 _ ?side1 ?side2 A6.out).mono ?_); (case side1 => exact zH21); (case side2 => exact HC0.out); rintro e w12 ⟨v214, rfl, ho0, hb⟩; have n_ := zA_ (za (zah ho0 (zs zG58))) (za (zp zG58 hb)); clear HB; obtain ⟨HO215, HB⟩ := n_; (try clear hb); (try clear ho0); obtain ⟨Ao13, co13, eo13⟩ := zab HO215.out; subst eo13) | (go_at_call 6; (with_reducible refine (laws_at.calls _ _ l1 0 (wrap64 ((t213.length : Int) + 1)) t216 _ ?side1 ?side2 A7.out).mono ?_); (case side1 => exact zH22); (case side2 => exact HC1.out); rintro e w' ⟨rfl, ⟨nd, rfl⟩⟩; (try first | exact ⟨rfl, _, World.drewN_drewN _ _ _⟩ | exact ⟨rfl, _, Eq.trans (World.drewN_drewN _ _ _) (congrArg (World.drewN _) (Nat.add_assoc _ _ _))⟩); have q14 : (t216 : Int) ≤ ((t213.length : Int) : Int) := zO; obtain ⟨i014, hi014, _, hsz14, _⟩ := info_parts info54; have hroom14 : t213.length ≤ co13 := (zx HO215.out).2.1; have hC14 : Kd.C k54 _ Ao13 t213.length t213 := (zx HO215.out).2.2; have hcut14 := cut_to (P := Try.prog) 23 54 .i64 Try.underlying23 hi014 Ao13 t213.length co13 t216 zO q14 hroom14; have hr14 := Kd.C_take (m := (t216 : Int).toNat) hC14 (by omega); have hy14 : y217.length = (t216 : Int).toNat := (by rw [Ny217.out, List.length_take]; omega); rw [← Ny217.out] at hr14; rw [← hy14] at hcut14; have HR220 := za hr14; have HC220 := za (show y217.length ≤ co13 from by omega); clear hr14 hC14 hroom14 hi014 hsz14; have KY14 := za hy14; clear hy14; have KL14 := za (show (t216 : Int).toNat ≤ t213.length from by omega); replace q14 := eq_true q14) | (go_at_call 7; (with_reducible refine (impl_CartRun.calls kj2 t212 _ _ y217 t221 t224 t225 t226 t227 t230 _ ?side1 ?side2 A10.out).mono ?_); (case side1 => exact zH6); (case side2 => exact HC220.out); rintro e w15 ⟨v222, v228, rfl, ho0, ho1, hb⟩; have n_ := zA_ (za (zt zK67 hb)) (zA_ (za (zah ho0 (zs zG58))) (zA_ (za (zah ho1 (zs zG58))) (zA_ (za (zag zK50 hb)) (za (zp zG58 hb))))); clear HO215 HR220 HB; obtain ⟨HO215, HO223, HO229, HR220, HB⟩ := n_; (try clear hb); (try clear ho0); (try clear ho1)) | ((with_reducible refine gate_dst (N := 9) rfl ?_); (try (refine gate_guard (by rfl) ?_; dsimp only)); refine box_event ?hg (N := 9) ?hd (cs := #[.int .i64 0, .int .i64 0, .int .i64 0, .slice none 0 0]) (t := 30) ?hr ?_; (case hd => rfl); (case hg => rfl); (case hr => exact zH37); intro gb231 hg w16 hbox hb; have n_ := zA_ (za (zt zK67 hb)) (zA_ (za (zt zK68 hb)) (zA_ (za (zt zK69 hb)) (zA_ (za (zag zK50 hb)) (zA_ (za (zp zG58 hb)) (zA_ (za (hbox)) (zA_ (zN1 w.heap.size hg (zs zG58)) (zN1 w.heap.size hg (zs zG58)))))))); clear HO215 HO223 HO229 HR220 HB; obtain ⟨HO215, HO223, HO229, HR220, HB, BK231, GW231, GE231⟩ := n_; clear hb hbox hg; obtain ⟨hcz17_0, hcz17_1, hcz17_2, hcz17_3, hfz17_0, hfz17_1, hfz17_2, hfz17_3⟩ := zB4 BK231.out; obtain ⟨Ao18, co18, eo18⟩ := zab HO229.out; subst eo18)))
   (try simp only [Act.put, List.setIfInBounds_toArray, List.set_cons_zero, List.set_cons_succ])
   go_cut [73] (fun v73 wc => ∃ (kq : Nat) (x73_10 : Bool), v73 = .bool x73_10 ∧ Aside0 (laws_FnCarts.j1 kq t212 x73_10 t224 t225 t226 t227 = some r) ∧ Aside0 (kq ≤ kj2) ∧ Aside0 (Kd.R k36 36 wc w.heap.size (fun _ => True) (.slice Ao18 t227.length co18) t227) ∧ Aside0 (wc.heap[gb231]? = some (.cells #[.int .i64 t224, .int .i64 t225, .int .i64 t226, (.slice Ao18 t227.length co18)] 30 (0, 0))) ∧ Aside0 (Below w.heap.size w wc))
   case first =>
    have H := HC11.out
    clear HC11
    by_cases c19 : t230 = 0
    rotate_left
    ·rw [if_neg c19] at H
     have c19b0 : (t230 == 0) = false := beq_eq_false_iff_ne.mpr c19
     have c19b1 : (t230 != 0) = true := bne_iff_ne.mpr c19
     (first | rw [c19b0] | (simp only [i64_w, i32_w]; rw [c19b0]) | skip)
     have H' := za H
     clear H
     go_wp2
     repeat (go_quiet (fail); try go_wp2)
     go_meet
     case rel => exact ⟨_, (true), zK71, H', ⟨zH35⟩, ⟨zH5⟩, ⟨zH0⟩, ⟨zH27⟩⟩
    rw [if_pos c19] at H
    have c19b0 : (t230 == 0) = true := beq_iff_eq.mpr c19
    have c19b1 : (t230 != 0) = false := bne_eq_false_iff_eq.mpr c19
    clear c19
    (first | rw [c19b0] | (simp only [i64_w, i32_w]; rw [c19b0]) | skip)
    by_cases c20 : (t221.length : Int) = t216
    rotate_left
    ·rw [if_neg c20] at H
     have c20b0 : ((t221.length : Int) == t216) = false := beq_eq_false_iff_ne.mpr c20
     have c20b1 : ((t221.length : Int) != t216) = true := bne_iff_ne.mpr c20
     have H' := za H
     clear H
     obtain ⟨Ao37, co37, eo37⟩ := zab HO223.out
     subst eo37
     go_wp2
     repeat (go_quiet (fail); try go_wp2)
     go_meet
     case rel => exact ⟨_, (true), zK71, H', ⟨zH35⟩, ⟨zH5⟩, ⟨zH0⟩, ⟨zH27⟩⟩
    rw [if_pos c20] at H
    have c20b0 : ((t221.length : Int) == t216) = true := beq_iff_eq.mpr c20
    have c20b1 : ((t221.length : Int) != t216) = false := bne_eq_false_iff_eq.mpr c20
    clear c20
    by_cases c21 : t216 > 0
    rotate_left
    ·rw [if_neg c21] at H
     have c21b0 : decide (0 < t216) = false := decide_eq_false c21
     clear c21
     by_cases c33 : t216 = 0
     rotate_left
     ·rw [if_neg c33] at H
      have c33b0 : (t216 == 0) = false := beq_eq_false_iff_ne.mpr c33
      have c33b1 : (t216 != 0) = true := bne_iff_ne.mpr c33
      have H' := za H
      clear H
      obtain ⟨Ao36, co36, eo36⟩ := zab HO223.out
      subst eo36
      go_wp2
      repeat (go_quiet (fail); try go_wp2)
      go_meet
      case rel => exact ⟨_, (false), zK71, H', ⟨zH35⟩, ⟨zH5⟩, ⟨zH0⟩, ⟨zH27⟩⟩
     rw [if_pos c33] at H
     have c33b0 : (t216 == 0) = true := beq_iff_eq.mpr c33
     have c33b1 : (t216 != 0) = false := bne_eq_false_iff_eq.mpr c33
     clear c33
     have H' := za H
     clear H
     obtain ⟨Ao34, co34, eo34⟩ := zab HO223.out
     subst eo34
     obtain ⟨hcz35_0, hcz35_1, hcz35_2, hcz35_3, hfz35_0, hfz35_1, hfz35_2, hfz35_3⟩ := zB4 BK231.out
     go_wp2
     repeat (go_quiet (fail); try go_wp2)
     go_meet
     case rel => exact ⟨_, ((t225 != t212)), zK71, H', ⟨zH35⟩, ⟨zH5⟩, ⟨zH0⟩, ⟨zH27⟩⟩
    rw [if_pos c21] at H
    have c21b0 : decide (0 < t216) = true := decide_eq_true c21
    clear c21
    obtain ⟨ji22, hji22⟩ : ∃ j_ : Int, (wrap64 (t216 - 1)) = j_ := ⟨_, rfl⟩
    replace H : (if 0 ≤ (ji22) then (if (ji22) < (t221.length : Int) then (if ((rd_T34 t221 (ji22)).f1) = t225 then (if t216 = 0 then (laws_FnCarts.j1 kj2 t212 (t225 != t212) t224 t225 t226 t227) else (laws_FnCarts.j1 kj2 t212 false t224 t225 t226 t227)) else (laws_FnCarts.j1 kj2 t212 true t224 t225 t226 t227)) else (none)) else (none)) = some r := by first | (rw [hji22] at H; exact H) | (simp only [hji22] at H ⊢; exact H)
    have hji22w : (IntKind.i64.wrap (t216 - 1)) = ji22 := (i64_w _).trans hji22
    by_cases c23 : 0 ≤ (ji22)
    rotate_left
    ·rw [if_neg c23] at H
     exact absurd H (by simp)
    rw [if_pos c23] at H
    have c23b0 := decide_eq_true c23
    clear c23
    by_cases c24 : (ji22) < (t221.length : Int)
    rotate_left
    ·rw [if_neg c24] at H
     exact absurd H (by simp)
    rw [if_pos c24] at H
    have c24b0 := decide_eq_true c24
    clear c24
    by_cases c25 : ((rd_T34 t221 (ji22)).f1) = t225
    rotate_left
    ·rw [if_neg c25] at H
     have c25b0 : (((rd_T34 t221 (ji22)).f1) == t225) = false := beq_eq_false_iff_ne.mpr c25
     have c25b1 : (((rd_T34 t221 (ji22)).f1) != t225) = true := bne_iff_ne.mpr c25
     have H' := za H
     clear H
     obtain ⟨Ao31, co31, eo31⟩ := zab HO223.out
     subst eo31
     have p232 : 0 ≤ ((ji22) : Int) := zO
     have q232 : (ji22) < (t221.length : Int) := zO
     obtain ⟨ad232, e232, hx232_0, hx232_1⟩ := at_T34 (zx HO223.out).2.2 (ji22) p232 q232
     cases e232
     have hn232_0 : ad232.block ≠ gb231 := zao (zai HO223.out BK231.out zG64)
     have hn232_1 : ad232.block ≠ gb231 := zao (zai HO223.out BK231.out zG64)
     have hn232_2 : ad232.block ≠ gb231 := zao (zai HO223.out BK231.out zG64)
     have hn232_3 : ad232.block ≠ gb231 := zao (zai HO223.out BK231.out zG64)
     replace hx232_0 := (cell_far (p := ⟨gb231, 0, none⟩) zK57 (.int .i64 t224)).trans hx232_0
     replace hx232_1 := (cell_far (p := ⟨gb231, 0, none⟩) zK57 (.int .i64 t224)).trans hx232_1
     replace hx232_0 := (cell_far (p := ⟨gb231, 1, none⟩) zK58 (.int .i64 t225)).trans hx232_0
     replace hx232_1 := (cell_far (p := ⟨gb231, 1, none⟩) zK58 (.int .i64 t225)).trans hx232_1
     replace hx232_0 := (cell_far (p := ⟨gb231, 2, none⟩) zK59 (.int .i64 t226)).trans hx232_0
     replace hx232_1 := (cell_far (p := ⟨gb231, 2, none⟩) zK59 (.int .i64 t226)).trans hx232_1
     replace hx232_0 := (cell_far (p := ⟨gb231, 3, none⟩) zK60 (.slice Ao18 t227.length co18)).trans hx232_0
     replace hx232_1 := (cell_far (p := ⟨gb231, 3, none⟩) zK60 (.slice Ao18 t227.length co18)).trans hx232_1
     (try have hy232_0 := fun (n_ : Nat) => (show ((((((w16.drewN n_).setCell ⟨gb231, 0, none⟩ (.int .i64 t224)).setCell ⟨gb231, 1, none⟩ (.int .i64 t225)).setCell ⟨gb231, 2, none⟩ (.int .i64 t226)).setCell ⟨gb231, 3, none⟩ (.slice Ao18 t227.length co18))).cell? _ = some _ from hx232_0))
     (try have hy232_1 := fun (n_ : Nat) => (show ((((((w16.drewN n_).setCell ⟨gb231, 0, none⟩ (.int .i64 t224)).setCell ⟨gb231, 1, none⟩ (.int .i64 t225)).setCell ⟨gb231, 2, none⟩ (.int .i64 t226)).setCell ⟨gb231, 3, none⟩ (.slice Ao18 t227.length co18))).cell? _ = some _ from hx232_1))
     clear hn232_0
     clear hn232_1
     clear hn232_2
     clear hn232_3
     replace p232 := eq_true p232
     replace q232 := eq_true q232
     obtain ⟨hcz32_0, hcz32_1, hcz32_2, hcz32_3, hfz32_0, hfz32_1, hfz32_2, hfz32_3⟩ := zB4 BK231.out
     go_wp2
     repeat (go_quiet (fail); try go_wp2)
     go_meet
     case rel => exact ⟨_, (true), zK71, H', ⟨zH35⟩, ⟨zH5⟩, ⟨zH0⟩, ⟨zH27⟩⟩
    rw [if_pos c25] at H
    have c25b0 : (((rd_T34 t221 (ji22)).f1) == t225) = true := beq_iff_eq.mpr c25
    have c25b1 : (((rd_T34 t221 (ji22)).f1) != t225) = false := bne_eq_false_iff_eq.mpr c25
    clear c25
    by_cases c26 : t216 = 0
    rotate_left
    ·rw [if_neg c26] at H
     have c26b0 : (t216 == 0) = false := beq_eq_false_iff_ne.mpr c26
     have c26b1 : (t216 != 0) = true := bne_iff_ne.mpr c26
     have H' := za H
     clear H
     obtain ⟨Ao29, co29, eo29⟩ := zab HO223.out
     subst eo29
     have p232 : 0 ≤ ((ji22) : Int) := zO
     have q232 : (ji22) < (t221.length : Int) := zO
     obtain ⟨ad232, e232, hx232_0, hx232_1⟩ := at_T34 (zx HO223.out).2.2 (ji22) p232 q232
     cases e232
     have hn232_0 : ad232.block ≠ gb231 := zao (zai HO223.out BK231.out zG64)
     have hn232_1 : ad232.block ≠ gb231 := zao (zai HO223.out BK231.out zG64)
     have hn232_2 : ad232.block ≠ gb231 := zao (zai HO223.out BK231.out zG64)
     have hn232_3 : ad232.block ≠ gb231 := zao (zai HO223.out BK231.out zG64)
     replace hx232_0 := (cell_far (p := ⟨gb231, 0, none⟩) zK57 (.int .i64 t224)).trans hx232_0
     replace hx232_1 := (cell_far (p := ⟨gb231, 0, none⟩) zK57 (.int .i64 t224)).trans hx232_1
     replace hx232_0 := (cell_far (p := ⟨gb231, 1, none⟩) zK58 (.int .i64 t225)).trans hx232_0
     replace hx232_1 := (cell_far (p := ⟨gb231, 1, none⟩) zK58 (.int .i64 t225)).trans hx232_1
     replace hx232_0 := (cell_far (p := ⟨gb231, 2, none⟩) zK59 (.int .i64 t226)).trans hx232_0
     replace hx232_1 := (cell_far (p := ⟨gb231, 2, none⟩) zK59 (.int .i64 t226)).trans hx232_1
     replace hx232_0 := (cell_far (p := ⟨gb231, 3, none⟩) zK60 (.slice Ao18 t227.length co18)).trans hx232_0
     replace hx232_1 := (cell_far (p := ⟨gb231, 3, none⟩) zK60 (.slice Ao18 t227.length co18)).trans hx232_1
     (try have hy232_0 := fun (n_ : Nat) => (show ((((((w16.drewN n_).setCell ⟨gb231, 0, none⟩ (.int .i64 t224)).setCell ⟨gb231, 1, none⟩ (.int .i64 t225)).setCell ⟨gb231, 2, none⟩ (.int .i64 t226)).setCell ⟨gb231, 3, none⟩ (.slice Ao18 t227.length co18))).cell? _ = some _ from hx232_0))
     (try have hy232_1 := fun (n_ : Nat) => (show ((((((w16.drewN n_).setCell ⟨gb231, 0, none⟩ (.int .i64 t224)).setCell ⟨gb231, 1, none⟩ (.int .i64 t225)).setCell ⟨gb231, 2, none⟩ (.int .i64 t226)).setCell ⟨gb231, 3, none⟩ (.slice Ao18 t227.length co18))).cell? _ = some _ from hx232_1))
     clear hn232_0
     clear hn232_1
     clear hn232_2
     clear hn232_3
     replace p232 := eq_true p232
     replace q232 := eq_true q232
     obtain ⟨hcz30_0, hcz30_1, hcz30_2, hcz30_3, hfz30_0, hfz30_1, hfz30_2, hfz30_3⟩ := zB4 BK231.out
     go_wp2
     repeat (go_quiet (fail); try go_wp2)
     go_meet
     case rel => exact ⟨_, (false), zK71, H', ⟨zH35⟩, ⟨zH5⟩, ⟨zH0⟩, ⟨zH27⟩⟩
    rw [if_pos c26] at H
    have c26b0 : (t216 == 0) = true := beq_iff_eq.mpr c26
    have c26b1 : (t216 != 0) = false := bne_eq_false_iff_eq.mpr c26
    clear c26
    have H' := za H
    clear H
    obtain ⟨Ao27, co27, eo27⟩ := zab HO223.out
    subst eo27
    have p232 : 0 ≤ ((ji22) : Int) := zO
    have q232 : (ji22) < (t221.length : Int) := zO
    obtain ⟨ad232, e232, hx232_0, hx232_1⟩ := at_T34 (zx HO223.out).2.2 (ji22) p232 q232
    cases e232
    have hn232_0 : ad232.block ≠ gb231 := zao (zai HO223.out BK231.out zG64)
    have hn232_1 : ad232.block ≠ gb231 := zao (zai HO223.out BK231.out zG64)
    have hn232_2 : ad232.block ≠ gb231 := zao (zai HO223.out BK231.out zG64)
    have hn232_3 : ad232.block ≠ gb231 := zao (zai HO223.out BK231.out zG64)
    replace hx232_0 := (cell_far (p := ⟨gb231, 0, none⟩) zK57 (.int .i64 t224)).trans hx232_0
    replace hx232_1 := (cell_far (p := ⟨gb231, 0, none⟩) zK57 (.int .i64 t224)).trans hx232_1
    replace hx232_0 := (cell_far (p := ⟨gb231, 1, none⟩) zK58 (.int .i64 t225)).trans hx232_0
    replace hx232_1 := (cell_far (p := ⟨gb231, 1, none⟩) zK58 (.int .i64 t225)).trans hx232_1
    replace hx232_0 := (cell_far (p := ⟨gb231, 2, none⟩) zK59 (.int .i64 t226)).trans hx232_0
    replace hx232_1 := (cell_far (p := ⟨gb231, 2, none⟩) zK59 (.int .i64 t226)).trans hx232_1
    replace hx232_0 := (cell_far (p := ⟨gb231, 3, none⟩) zK60 (.slice Ao18 t227.length co18)).trans hx232_0
    replace hx232_1 := (cell_far (p := ⟨gb231, 3, none⟩) zK60 (.slice Ao18 t227.length co18)).trans hx232_1
    (try have hy232_0 := fun (n_ : Nat) => (show ((((((w16.drewN n_).setCell ⟨gb231, 0, none⟩ (.int .i64 t224)).setCell ⟨gb231, 1, none⟩ (.int .i64 t225)).setCell ⟨gb231, 2, none⟩ (.int .i64 t226)).setCell ⟨gb231, 3, none⟩ (.slice Ao18 t227.length co18))).cell? _ = some _ from hx232_0))
    (try have hy232_1 := fun (n_ : Nat) => (show ((((((w16.drewN n_).setCell ⟨gb231, 0, none⟩ (.int .i64 t224)).setCell ⟨gb231, 1, none⟩ (.int .i64 t225)).setCell ⟨gb231, 2, none⟩ (.int .i64 t226)).setCell ⟨gb231, 3, none⟩ (.slice Ao18 t227.length co18))).cell? _ = some _ from hx232_1))
    clear hn232_0
    clear hn232_1
    clear hn232_2
    clear hn232_3
    replace p232 := eq_true p232
    replace q232 := eq_true q232
    obtain ⟨hcz28_0, hcz28_1, hcz28_2, hcz28_3, hfz28_0, hfz28_1, hfz28_2, hfz28_3⟩ := zB4 BK231.out
    go_wp2
    repeat (go_quiet (fail); try go_wp2)
    go_meet
    case rel => exact ⟨_, ((t225 != t212)), zK71, H', ⟨zH35⟩, ⟨zH5⟩, ⟨zH0⟩, ⟨zH27⟩⟩
   case rest =>
    clear HC11
    try clear c1
    try clear c4
    try clear c4b0
    try clear c4b1
    try clear c5
    try clear c8
    try clear c8b0
    try clear c8b1
    try clear c9
    try clear c9b0
    try clear c9b1
    try clear q14
    try clear c19
    try clear c19b0
    try clear c19b1
    try clear c20
    try clear c20b0
    try clear c20b1
    try clear c21
    try clear c21b0
    try clear c23
    try clear c23b0
    try clear c24
    try clear c24b0
    try clear c25
    try clear c25b0
    try clear c25b1
    try clear c26
    try clear c26b0
    try clear c26b1
    try clear c33
    try clear c33b0
    try clear c33b1
    try clear hcz17_0
    try clear hcz17_1
    try clear hcz17_2
    try clear hcz17_3
    try clear hcz28_0
    try clear hcz28_1
    try clear hcz28_2
    try clear hcz28_3
    try clear hcz30_0
    try clear hcz30_1
    try clear hcz30_2
    try clear hcz30_3
    try clear hcz32_0
    try clear hcz32_1
    try clear hcz32_2
    try clear hcz32_3
    try clear hcz35_0
    try clear hcz35_1
    try clear hcz35_2
    try clear hcz35_3
    try clear hfz17_0
    try clear hfz17_1
    try clear hfz17_2
    try clear hfz17_3
    try clear hfz28_0
    try clear hfz28_1
    try clear hfz28_2
    try clear hfz28_3
    try clear hfz30_0
    try clear hfz30_1
    try clear hfz30_2
    try clear hfz30_3
    try clear hfz32_0
    try clear hfz32_1
    try clear hfz32_2
    try clear hfz32_3
    try clear hfz35_0
    try clear hfz35_1
    try clear hfz35_2
    try clear hfz35_3
    try clear hx232_0
    try clear hx232_1
    try clear p232
    try clear q14
    try clear q232
    obtain ⟨kq, x73_10, rfl, HA, HJ10, HO_232003, BK231, HB⟩ := hcut
    cases kq with
    | zero => exact absurd HA.out (by simp [laws_FnCarts.j1])
    | succ kj10 =>
     have H := HA.out
     clear HA
     simp only [laws_FnCarts.j1] at H
     by_cases c38 : x73_10 = true
     ·subst c38
      have H1 : (some false) = some r := by rw [if_pos rfl] at H; exact H
      clear H
      have H := H1
      clear H1
      obtain rfl := Option.some.inj H
      go_wp2
      repeat (go_quiet (fail); try go_wp2)
      go_ret
      exact zH10
     replace c38 := Bool.eq_false_iff.mpr c38
     subst c38
     have H1 : (laws_FnCarts.l0 kj10 t212 (wrap64 (t225 + t226)) 0 t224 t225 t226 t227) = some r := by rw [if_neg (show ¬ (false = true) by decide)] at H; exact H
     clear H
     have H := H1
     clear H1
     have H' := za H
     clear H
     obtain ⟨hcz39_0, hcz39_1, hcz39_2, hcz39_3, hfz39_0, hfz39_1, hfz39_2, hfz39_3⟩ := zB4 BK231.out
     go_wp2
     repeat (go_quiet (fail); try go_wp2)
     go_loopg [11, 12] kj10 (fun kq v11 v12 w' => ∃ (x11_3 : Int) (x12_3 : Int), v11 = .int .i64 x11_3 ∧ v12 = .int .i64 x12_3 ∧ Aside0 (laws_FnCarts.l0 kq t212 x11_3 x12_3 t224 t225 t226 t227 = some r) ∧ Aside0 (kq ≤ kj10) ∧ Aside0 (Kd.R k36 36 w' w.heap.size (fun _ => True) (.slice Ao18 t227.length co18) t227) ∧ Aside0 (w'.heap[gb231]? = some (.cells #[.int .i64 t224, .int .i64 t225, .int .i64 t226, (.slice Ao18 t227.length co18)] 30 (0, 0))) ∧ Aside0 (Below w.heap.size w w'))
     case atStart => exact ⟨(wrap64 (t225 + t226)), (0), zK71, zK71, H', ⟨Nat.le_refl _⟩, ⟨by (with_reducible repeat (first | apply zl | apply zk | apply zm)); exact HO_232003.out⟩, ⟨by (with_reducible repeat (first | refine zh ?_ _ | refine zj ?_ | refine zg ?_ _)); exact BK231.out⟩, ⟨zH27⟩⟩
     case round =>
      clear H'
      try clear c1
      try clear c4
      try clear c4b0
      try clear c4b1
      try clear c5
      try clear c8
      try clear c8b0
      try clear c8b1
      try clear c9
      try clear c9b0
      try clear c9b1
      try clear q14
      try clear c19
      try clear c19b0
      try clear c19b1
      try clear c20
      try clear c20b0
      try clear c20b1
      try clear c21
      try clear c21b0
      try clear c23
      try clear c23b0
      try clear c24
      try clear c24b0
      try clear c25
      try clear c25b0
      try clear c25b1
      try clear c26
      try clear c26b0
      try clear c26b1
      try clear c33
      try clear c33b0
      try clear c33b1
      try clear c38
      try clear hcz17_0
      try clear hcz17_1
      try clear hcz17_2
      try clear hcz17_3
      try clear hcz28_0
      try clear hcz28_1
      try clear hcz28_2
      try clear hcz28_3
      try clear hcz30_0
      try clear hcz30_1
      try clear hcz30_2
      try clear hcz30_3
      try clear hcz32_0
      try clear hcz32_1
      try clear hcz32_2
      try clear hcz32_3
      try clear hcz35_0
      try clear hcz35_1
      try clear hcz35_2
      try clear hcz35_3
      try clear hcz39_0
      try clear hcz39_1
      try clear hcz39_2
      try clear hcz39_3
      try clear hfz17_0
      try clear hfz17_1
      try clear hfz17_2
      try clear hfz17_3
      try clear hfz28_0
      try clear hfz28_1
      try clear hfz28_2
      try clear hfz28_3
      try clear hfz30_0
      try clear hfz30_1
      try clear hfz30_2
      try clear hfz30_3
      try clear hfz32_0
      try clear hfz32_1
      try clear hfz32_2
      try clear hfz32_3
      try clear hfz35_0
      try clear hfz35_1
      try clear hfz35_2
      try clear hfz35_3
      try clear hfz39_0
      try clear hfz39_1
      try clear hfz39_2
      try clear hfz39_3
      try clear hx232_0
      try clear hx232_1
      try clear p232
      try clear q14
      try clear q232
      obtain ⟨x11_3, x12_3, rfl, rfl, HA, HK3, HO_232003, BK231, HB⟩ := hrel
      cases gk with
      | zero => exact absurd HA.out (by simp [laws_FnCarts.l0])
      | succ k3 =>
       have H := HA.out
       clear HA
       simp only [laws_FnCarts.l0] at H
       by_cases c40 : x12_3 < (t227.length : Int)
       rotate_left
       ·rw [if_neg c40] at H
        have c40b0 := decide_eq_false c40
        clear c40
        by_cases c58 : x11_3 = t212
        rotate_left
        ·rw [if_neg c58] at H
         have c58b0 : (x11_3 == t212) = false := beq_eq_false_iff_ne.mpr c58
         have c58b1 : (x11_3 != t212) = true := bne_iff_ne.mpr c58
         obtain rfl := Option.some.inj H
         obtain ⟨hcz62_0, hcz62_1, hcz62_2, hcz62_3, hfz62_0, hfz62_1, hfz62_2, hfz62_3⟩ := zB4 BK231.out
         go_wp2
         repeat (go_quiet (fail); try go_wp2)
         go_ret
         exact zH10
        rw [if_pos c58] at H
        have c58b0 : (x11_3 == t212) = true := beq_iff_eq.mpr c58
        have c58b1 : (x11_3 != t212) = false := bne_eq_false_iff_eq.mpr c58
        clear c58
        by_cases c59 : t225 ≥ 0
        rotate_left
        ·rw [if_neg c59] at H
         have c59b0 : decide (0 ≤ t225) = false := decide_eq_false c59
         clear c59
         obtain rfl := Option.some.inj H
         obtain ⟨hcz61_0, hcz61_1, hcz61_2, hcz61_3, hfz61_0, hfz61_1, hfz61_2, hfz61_3⟩ := zB4 BK231.out
         go_wp2
         repeat (go_quiet (fail); try go_wp2)
         go_ret
         exact zH10
        rw [if_pos c59] at H
        have c59b0 : decide (0 ≤ t225) = true := decide_eq_true c59
        clear c59
        obtain rfl := Option.some.inj H
        obtain ⟨hcz60_0, hcz60_1, hcz60_2, hcz60_3, hfz60_0, hfz60_1, hfz60_2, hfz60_3⟩ := zB4 BK231.out
        go_wp2
        repeat (go_quiet (fail); try go_wp2)
        go_ret
        exact zH10
       rw [if_pos c40] at H
       have c40b0 := decide_eq_true c40
       clear c40
       by_cases c41 : 0 ≤ x12_3
       rotate_left
       ·rw [if_neg c41] at H
        exact absurd H (by simp)
       rw [if_pos c41] at H
       have c41b0 := decide_eq_true c41
       clear c41
       by_cases c42 : ((rd_T36 t227 x12_3).f1) < 1
       ·rw [if_pos c42] at H
        have c42b0 := decide_eq_true c42
        clear c42
        obtain rfl := Option.some.inj H
        obtain ⟨hcz43_0, hcz43_1, hcz43_2, hcz43_3, hfz43_0, hfz43_1, hfz43_2, hfz43_3⟩ := zB4 BK231.out
        have p233 : 0 ≤ (x12_3 : Int) := zO
        have q233 : x12_3 < (t227.length : Int) := zO
        obtain ⟨ad233, e233, hx233_0, hx233_1, hx233_2⟩ := at_T36 (zx HO_232003.out).2.2 x12_3 p233 q233
        cases e233
        replace p233 := eq_true p233
        replace q233 := eq_true q233
        go_wp2_with (first | ((with_reducible refine gate_dst (N := 13) rfl ?_); (try (refine gate_guard (by rfl) ?_; dsimp only)); refine box_event ?hg (N := 13) ?hd (cs := #[.int .i64 0, .int .i64 0, .int .i64 0]) (t := 36) ?hr ?_; (case hd => rfl); (case hg => rfl); (case hr => exact zH37); intro gb234 hg w44 hbox hb; have n_ := zA_ (za (zt (zn (zan zK63 gb234 (Nat.le_of_eq hg.symm)) (fun _ h_ => h_.2)) hb)) (zA_ (za (zu (g := gb231) (o := .cells #[.int .i64 t224, .int .i64 t225, .int .i64 t226, .slice (some ad233) t227.length co18] 30 (0, 0)) zG60 hb)) (zA_ (za (zp zG57 hb)) (zA_ (za (hbox)) (zA_ (zN1 w.heap.size hg (zs zG57)) (zA_ (zN1 w.heap.size hg (zs zG57)) (zN2 hg (zac (g := gb231) (o := .cells #[.int .i64 t224, .int .i64 t225, .int .i64 t226, .slice (some ad233) t227.length co18] 30 (0, 0)) zG60))))))); clear HO_232003 BK231 HB; obtain ⟨HO_232003, BK231, HB, BK234, GW234, GE234, NB231_234, NB234_231⟩ := n_; clear hb hbox hg; have hnb45 := NB234_231.out; have hnc45 := NB231_234.out; obtain ⟨hcz46_0, hcz46_1, hcz46_2, hfz46_0, hfz46_1, hfz46_2⟩ := zB3 BK234.out))
        repeat (go_quiet (first | ((with_reducible refine gate_dst (N := 13) rfl ?_); (try (refine gate_guard (by rfl) ?_; dsimp only)); refine box_event ?hg (N := 13) ?hd (cs := #[.int .i64 0, .int .i64 0, .int .i64 0]) (t := 36) ?hr ?_; (case hd => rfl); (case hg => rfl); (case hr => exact zH37); intro gb234 hg w44 hbox hb; have n_ := zA_ (za (zt (zn (zan zK63 gb234 (Nat.le_of_eq hg.symm)) (fun _ h_ => h_.2)) hb)) (zA_ (za (zu (g := gb231) (o := .cells #[.int .i64 t224, .int .i64 t225, .int .i64 t226, .slice (some ad233) t227.length co18] 30 (0, 0)) zG60 hb)) (zA_ (za (zp zG57 hb)) (zA_ (za (hbox)) (zA_ (zN1 w.heap.size hg (zs zG57)) (zA_ (zN1 w.heap.size hg (zs zG57)) (zN2 hg (zac (g := gb231) (o := .cells #[.int .i64 t224, .int .i64 t225, .int .i64 t226, .slice (some ad233) t227.length co18] 30 (0, 0)) zG60))))))); clear HO_232003 BK231 HB; obtain ⟨HO_232003, BK231, HB, BK234, GW234, GE234, NB231_234, NB234_231⟩ := n_; clear hb hbox hg; have hnb45 := NB234_231.out; have hnc45 := NB231_234.out; obtain ⟨hcz46_0, hcz46_1, hcz46_2, hfz46_0, hfz46_1, hfz46_2⟩ := zB3 BK234.out)); try go_wp2_with (first | ((with_reducible refine gate_dst (N := 13) rfl ?_); (try (refine gate_guard (by rfl) ?_; dsimp only)); refine box_event ?hg (N := 13) ?hd (cs := #[.int .i64 0, .int .i64 0, .int .i64 0]) (t := 36) ?hr ?_; (case hd => rfl); (case hg => rfl); (case hr => exact zH37); intro gb234 hg w44 hbox hb; have n_ := zA_ (za (zt (zn (zan zK63 gb234 (Nat.le_of_eq hg.symm)) (fun _ h_ => h_.2)) hb)) (zA_ (za (zu (g := gb231) (o := .cells #[.int .i64 t224, .int .i64 t225, .int .i64 t226, .slice (some ad233) t227.length co18] 30 (0, 0)) zG60 hb)) (zA_ (za (zp zG57 hb)) (zA_ (za (hbox)) (zA_ (zN1 w.heap.size hg (zs zG57)) (zA_ (zN1 w.heap.size hg (zs zG57)) (zN2 hg (zac (g := gb231) (o := .cells #[.int .i64 t224, .int .i64 t225, .int .i64 t226, .slice (some ad233) t227.length co18] 30 (0, 0)) zG60))))))); clear HO_232003 BK231 HB; obtain ⟨HO_232003, BK231, HB, BK234, GW234, GE234, NB231_234, NB234_231⟩ := n_; clear hb hbox hg; have hnb45 := NB234_231.out; have hnc45 := NB231_234.out; obtain ⟨hcz46_0, hcz46_1, hcz46_2, hfz46_0, hfz46_1, hfz46_2⟩ := zB3 BK234.out)))
        go_ret
        exact zH9
       rw [if_neg c42] at H
       have c42b0 := decide_eq_false c42
       clear c42
       by_cases c47 : ((rd_T36 t227 x12_3).f2) ≤ t224
       ·rw [if_pos c47] at H
        have c47b0 := decide_eq_true c47
        clear c47
        obtain rfl := Option.some.inj H
        obtain ⟨hcz48_0, hcz48_1, hcz48_2, hcz48_3, hfz48_0, hfz48_1, hfz48_2, hfz48_3⟩ := zB4 BK231.out
        have p233 : 0 ≤ (x12_3 : Int) := zO
        have q233 : x12_3 < (t227.length : Int) := zO
        obtain ⟨ad233, e233, hx233_0, hx233_1, hx233_2⟩ := at_T36 (zx HO_232003.out).2.2 x12_3 p233 q233
        cases e233
        replace p233 := eq_true p233
        replace q233 := eq_true q233
        go_wp2_with (first | ((with_reducible refine gate_dst (N := 13) rfl ?_); (try (refine gate_guard (by rfl) ?_; dsimp only)); refine box_event ?hg (N := 13) ?hd (cs := #[.int .i64 0, .int .i64 0, .int .i64 0]) (t := 36) ?hr ?_; (case hd => rfl); (case hg => rfl); (case hr => exact zH37); intro gb234 hg w49 hbox hb; have n_ := zA_ (za (zt (zn (zan zK63 gb234 (Nat.le_of_eq hg.symm)) (fun _ h_ => h_.2)) hb)) (zA_ (za (zu (g := gb231) (o := .cells #[.int .i64 t224, .int .i64 t225, .int .i64 t226, .slice (some ad233) t227.length co18] 30 (0, 0)) zG60 hb)) (zA_ (za (zp zG57 hb)) (zA_ (za (hbox)) (zA_ (zN1 w.heap.size hg (zs zG57)) (zA_ (zN1 w.heap.size hg (zs zG57)) (zN2 hg (zac (g := gb231) (o := .cells #[.int .i64 t224, .int .i64 t225, .int .i64 t226, .slice (some ad233) t227.length co18] 30 (0, 0)) zG60))))))); clear HO_232003 BK231 HB; obtain ⟨HO_232003, BK231, HB, BK234, GW234, GE234, NB231_234, NB234_231⟩ := n_; clear hb hbox hg; have hnb50 := NB234_231.out; have hnc50 := NB231_234.out; obtain ⟨hcz51_0, hcz51_1, hcz51_2, hfz51_0, hfz51_1, hfz51_2⟩ := zB3 BK234.out; obtain ⟨hcz52_0, hcz52_1, hcz52_2, hcz52_3, hfz52_0, hfz52_1, hfz52_2, hfz52_3⟩ := zB4 BK231.out))
        repeat (go_quiet (first | ((with_reducible refine gate_dst (N := 13) rfl ?_); (try (refine gate_guard (by rfl) ?_; dsimp only)); refine box_event ?hg (N := 13) ?hd (cs := #[.int .i64 0, .int .i64 0, .int .i64 0]) (t := 36) ?hr ?_; (case hd => rfl); (case hg => rfl); (case hr => exact zH37); intro gb234 hg w49 hbox hb; have n_ := zA_ (za (zt (zn (zan zK63 gb234 (Nat.le_of_eq hg.symm)) (fun _ h_ => h_.2)) hb)) (zA_ (za (zu (g := gb231) (o := .cells #[.int .i64 t224, .int .i64 t225, .int .i64 t226, .slice (some ad233) t227.length co18] 30 (0, 0)) zG60 hb)) (zA_ (za (zp zG57 hb)) (zA_ (za (hbox)) (zA_ (zN1 w.heap.size hg (zs zG57)) (zA_ (zN1 w.heap.size hg (zs zG57)) (zN2 hg (zac (g := gb231) (o := .cells #[.int .i64 t224, .int .i64 t225, .int .i64 t226, .slice (some ad233) t227.length co18] 30 (0, 0)) zG60))))))); clear HO_232003 BK231 HB; obtain ⟨HO_232003, BK231, HB, BK234, GW234, GE234, NB231_234, NB234_231⟩ := n_; clear hb hbox hg; have hnb50 := NB234_231.out; have hnc50 := NB231_234.out; obtain ⟨hcz51_0, hcz51_1, hcz51_2, hfz51_0, hfz51_1, hfz51_2⟩ := zB3 BK234.out; obtain ⟨hcz52_0, hcz52_1, hcz52_2, hcz52_3, hfz52_0, hfz52_1, hfz52_2, hfz52_3⟩ := zB4 BK231.out)); try go_wp2_with (first | ((with_reducible refine gate_dst (N := 13) rfl ?_); (try (refine gate_guard (by rfl) ?_; dsimp only)); refine box_event ?hg (N := 13) ?hd (cs := #[.int .i64 0, .int .i64 0, .int .i64 0]) (t := 36) ?hr ?_; (case hd => rfl); (case hg => rfl); (case hr => exact zH37); intro gb234 hg w49 hbox hb; have n_ := zA_ (za (zt (zn (zan zK63 gb234 (Nat.le_of_eq hg.symm)) (fun _ h_ => h_.2)) hb)) (zA_ (za (zu (g := gb231) (o := .cells #[.int .i64 t224, .int .i64 t225, .int .i64 t226, .slice (some ad233) t227.length co18] 30 (0, 0)) zG60 hb)) (zA_ (za (zp zG57 hb)) (zA_ (za (hbox)) (zA_ (zN1 w.heap.size hg (zs zG57)) (zA_ (zN1 w.heap.size hg (zs zG57)) (zN2 hg (zac (g := gb231) (o := .cells #[.int .i64 t224, .int .i64 t225, .int .i64 t226, .slice (some ad233) t227.length co18] 30 (0, 0)) zG60))))))); clear HO_232003 BK231 HB; obtain ⟨HO_232003, BK231, HB, BK234, GW234, GE234, NB231_234, NB234_231⟩ := n_; clear hb hbox hg; have hnb50 := NB234_231.out; have hnc50 := NB231_234.out; obtain ⟨hcz51_0, hcz51_1, hcz51_2, hfz51_0, hfz51_1, hfz51_2⟩ := zB3 BK234.out; obtain ⟨hcz52_0, hcz52_1, hcz52_2, hcz52_3, hfz52_0, hfz52_1, hfz52_2, hfz52_3⟩ := zB4 BK231.out)))
        go_ret
        exact zH9
       rw [if_neg c47] at H
       have c47b0 := decide_eq_false c47
       clear c47
       have H' := za H
       clear H
       obtain ⟨hcz53_0, hcz53_1, hcz53_2, hcz53_3, hfz53_0, hfz53_1, hfz53_2, hfz53_3⟩ := zB4 BK231.out
       have p233 : 0 ≤ (x12_3 : Int) := zO
       have q233 : x12_3 < (t227.length : Int) := zO
       obtain ⟨ad233, e233, hx233_0, hx233_1, hx233_2⟩ := at_T36 (zx HO_232003.out).2.2 x12_3 p233 q233
       cases e233
       replace p233 := eq_true p233
       replace q233 := eq_true q233
       go_wp2_with (first | ((with_reducible refine gate_dst (N := 13) rfl ?_); (try (refine gate_guard (by rfl) ?_; dsimp only)); refine box_event ?hg (N := 13) ?hd (cs := #[.int .i64 0, .int .i64 0, .int .i64 0]) (t := 36) ?hr ?_; (case hd => rfl); (case hg => rfl); (case hr => exact zH37); intro gb234 hg w54 hbox hb; have n_ := zA_ (za (zt (zn (zan zK63 gb234 (Nat.le_of_eq hg.symm)) (fun _ h_ => h_.2)) hb)) (zA_ (za (zu (g := gb231) (o := .cells #[.int .i64 t224, .int .i64 t225, .int .i64 t226, .slice (some ad233) t227.length co18] 30 (0, 0)) zG60 hb)) (zA_ (za (zp zG57 hb)) (zA_ (za (hbox)) (zA_ (zN1 w.heap.size hg (zs zG57)) (zA_ (zN1 w.heap.size hg (zs zG57)) (zN2 hg (zac (g := gb231) (o := .cells #[.int .i64 t224, .int .i64 t225, .int .i64 t226, .slice (some ad233) t227.length co18] 30 (0, 0)) zG60))))))); clear HO_232003 BK231 HB; obtain ⟨HO_232003, BK231, HB, BK234, GW234, GE234, NB231_234, NB234_231⟩ := n_; clear hb hbox hg; have hnb55 := NB234_231.out; have hnc55 := NB231_234.out; obtain ⟨hcz56_0, hcz56_1, hcz56_2, hfz56_0, hfz56_1, hfz56_2⟩ := zB3 BK234.out; obtain ⟨hcz57_0, hcz57_1, hcz57_2, hcz57_3, hfz57_0, hfz57_1, hfz57_2, hfz57_3⟩ := zB4 BK231.out))
       repeat (go_quiet (first | ((with_reducible refine gate_dst (N := 13) rfl ?_); (try (refine gate_guard (by rfl) ?_; dsimp only)); refine box_event ?hg (N := 13) ?hd (cs := #[.int .i64 0, .int .i64 0, .int .i64 0]) (t := 36) ?hr ?_; (case hd => rfl); (case hg => rfl); (case hr => exact zH37); intro gb234 hg w54 hbox hb; have n_ := zA_ (za (zt (zn (zan zK63 gb234 (Nat.le_of_eq hg.symm)) (fun _ h_ => h_.2)) hb)) (zA_ (za (zu (g := gb231) (o := .cells #[.int .i64 t224, .int .i64 t225, .int .i64 t226, .slice (some ad233) t227.length co18] 30 (0, 0)) zG60 hb)) (zA_ (za (zp zG57 hb)) (zA_ (za (hbox)) (zA_ (zN1 w.heap.size hg (zs zG57)) (zA_ (zN1 w.heap.size hg (zs zG57)) (zN2 hg (zac (g := gb231) (o := .cells #[.int .i64 t224, .int .i64 t225, .int .i64 t226, .slice (some ad233) t227.length co18] 30 (0, 0)) zG60))))))); clear HO_232003 BK231 HB; obtain ⟨HO_232003, BK231, HB, BK234, GW234, GE234, NB231_234, NB234_231⟩ := n_; clear hb hbox hg; have hnb55 := NB234_231.out; have hnc55 := NB231_234.out; obtain ⟨hcz56_0, hcz56_1, hcz56_2, hfz56_0, hfz56_1, hfz56_2⟩ := zB3 BK234.out; obtain ⟨hcz57_0, hcz57_1, hcz57_2, hcz57_3, hfz57_0, hfz57_1, hfz57_2, hfz57_3⟩ := zB4 BK231.out)); try go_wp2_with (first | ((with_reducible refine gate_dst (N := 13) rfl ?_); (try (refine gate_guard (by rfl) ?_; dsimp only)); refine box_event ?hg (N := 13) ?hd (cs := #[.int .i64 0, .int .i64 0, .int .i64 0]) (t := 36) ?hr ?_; (case hd => rfl); (case hg => rfl); (case hr => exact zH37); intro gb234 hg w54 hbox hb; have n_ := zA_ (za (zt (zn (zan zK63 gb234 (Nat.le_of_eq hg.symm)) (fun _ h_ => h_.2)) hb)) (zA_ (za (zu (g := gb231) (o := .cells #[.int .i64 t224, .int .i64 t225, .int .i64 t226, .slice (some ad233) t227.length co18] 30 (0, 0)) zG60 hb)) (zA_ (za (zp zG57 hb)) (zA_ (za (hbox)) (zA_ (zN1 w.heap.size hg (zs zG57)) (zA_ (zN1 w.heap.size hg (zs zG57)) (zN2 hg (zac (g := gb231) (o := .cells #[.int .i64 t224, .int .i64 t225, .int .i64 t226, .slice (some ad233) t227.length co18] 30 (0, 0)) zG60))))))); clear HO_232003 BK231 HB; obtain ⟨HO_232003, BK231, HB, BK234, GW234, GE234, NB231_234, NB234_231⟩ := n_; clear hb hbox hg; have hnb55 := NB234_231.out; have hnc55 := NB231_234.out; obtain ⟨hcz56_0, hcz56_1, hcz56_2, hfz56_0, hfz56_1, hfz56_2⟩ := zB3 BK234.out; obtain ⟨hcz57_0, hcz57_1, hcz57_2, hcz57_3, hfz57_0, hfz57_1, hfz57_2, hfz57_3⟩ := zB4 BK231.out)))
       go_roundg k3
       case measure => have := HJ2.out; have := HJ10.out; have := HK3.out; omega
       case rel => exact ⟨(wrap64 (x11_3 + ((rd_T36 t227 x12_3).f1))), (wrap64 (x12_3 + 1)), zK71, zK71, H', ⟨by have := HJ2.out; have := HJ10.out; have := HK3.out; omega⟩, ⟨by (with_reducible repeat (first | apply zl | apply zk | apply zm)); exact zn (zq (p := ⟨gb234, 2, none⟩) (zq (p := ⟨gb234, 1, none⟩) (zq (p := ⟨gb234, 0, none⟩) (zn HO_232003.out (fun k_ hk => (⟨hk, hk⟩ : _ ∧ k_ ≠ gb234))) (fun _ hk => hk.2) (.int .i64 ((rd_T36 t227 x12_3).f0))) (fun _ hk => hk.2) (.int .i64 ((rd_T36 t227 x12_3).f1))) (fun _ hk => hk.2) (.int .i64 ((rd_T36 t227 x12_3).f2))) (fun _ hk => trivial)⟩, ⟨by (with_reducible repeat (first | refine zh ?_ _ | refine zj ?_ | refine zg ?_ _)); refine zak ?_ NB231_234.out _; (with_reducible repeat (first | refine zh ?_ _ | refine zj ?_ | refine zg ?_ _)); refine zak ?_ NB231_234.out _; (with_reducible repeat (first | refine zh ?_ _ | refine zj ?_ | refine zg ?_ _)); refine zak ?_ NB231_234.out _; (with_reducible repeat (first | refine zh ?_ _ | refine zj ?_ | refine zg ?_ _)); exact BK231.out⟩, ⟨by repeat (first | (with_reducible first | exact HB.out | apply zf | apply zc | apply ze | refine zi ?_ GE231.out | refine zi ?_ GE234.out) | exact HB.out)⟩⟩
end Go.Proofs.Ytdohpbhljifodaa.D
