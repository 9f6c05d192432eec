-- squeezed
-- made by pp.py (wip/tools) out of the translation; Lean checks it
import Derived.Test.YtojncbpeeboooaaY0
namespace Go.Proofs.Ytojncbpeeboooaa.Y
open Go.RowKit Go.Proofs.YtojncbpeeboooaaW.PrintWords Go.Proofs.YtojncbpeeboooaaW.PrintLast Go.Proofs.YtojncbpeeboooaaW.PrintMore
attribute [local go_sem] max2_int min2_int max_two min_two max_three min_three max_four min_four   -- for this text's walks alone
set_option linter.unusedVariables false
set_option linter.unusedSimpArgs false


/-! ### spec_l21Cost: function 139 -/
def spec_l21Cost.l0 : Nat → List (S139) → List (S72) → List Int → Int → Int → Option (Int)
 | 0, _, _, _, _, _ => none
 | k + 1, x0, x1, x2, x7, x8 => if x8 < (x2.length : Int) then (if 0 ≤ x8 then (if x8 < (x0.length : Int) then (if 0 ≤ (rd x2 x8) then (if (rd x2 x8) < (x1.length : Int) then (spec_l21Cost.l0 k x0 x1 x2 (wrap64 (x7 + (wrap64 ((wrap64 (((rd_T139 x0 x8).f1) - ((rd_T139 x0 x8).f0))) * ((rd_T72 x1 (rd x2 x8)).f3))))) (wrap64 (x8 + 1))) else (none)) else (none)) else (none)) else (none)) else (some x7)
def spec_l21Cost.f (k : Nat) (l0 : List (S139)) (l1 : List (S72)) (l2 : List Int) : Option (Int) := spec_l21Cost.l0 k l0 l1 l2 0 0
theorem spec_l21Cost.mono_l : ∀ k, (∀ y0 y1 y2 y3 y4, LeO (spec_l21Cost.l0 k y0 y1 y2 y3 y4) (spec_l21Cost.l0 (k + 1) y0 y1 y2 y3 y4))
 | 0 => fun _ _ _ _ _ r h => by simp [spec_l21Cost.l0] at h
 | k + 1 => by
  have ih0 := spec_l21Cost.mono_l k
  ·intro y0 y1 y2 y3 y4
   unfold spec_l21Cost.l0
   repeat' first
   | (with_reducible exact ih0 _ _ _ _ _)
   | (with_reducible exact LeO.refl _)
   | (with_reducible exact LeO.none _)
   | (with_reducible refine LeO.ite ?_ ?_)
   | (with_reducible refine LeO.bind ?_ (fun _ => ?_))
   | exact ih0 _ _ _ _ _
   | exact LeO.none _
   | refine LeO.ite ?_ ?_
   | refine LeO.bind ?_ (fun _ => ?_)
theorem spec_l21Cost.mono : ∀ a0 a1 a2 k, LeO (spec_l21Cost.f k a0 a1 a2) (spec_l21Cost.f (k + 1) a0 a1 a2) := by
 intro a0 a1 a2 k
 have ih0 := spec_l21Cost.mono_l k
 unfold spec_l21Cost.f
 repeat' first
   | (with_reducible exact ih0 _ _ _ _ _)
   | (with_reducible exact LeO.refl _)
   | (with_reducible exact LeO.none _)
   | (with_reducible refine LeO.ite ?_ ?_)
   | (with_reducible refine LeO.bind ?_ (fun _ => ?_))
   | exact ih0 _ _ _ _ _
   | exact LeO.none _
   | refine LeO.ite ?_ ?_
   | refine LeO.bind ?_ (fun _ => ?_)
set_option maxHeartbeats 64000000 in
set_option maxRecDepth 100000 in
theorem spec_l21Cost.calls (k : Nat) (A0 : Option Addr) (c0 : Nat) (l0 : List (S139)) (A1 : Option Addr) (c1 : Nat) (l1 : List (S72)) (A2 : Option Addr) (c2 : Nat) (l2 : List Int) (r : Int) (w : World) (hr0 : Kd.C k139 w A0 l0.length l0) (hc0 : l0.length ≤ c0) (hr1 : Kd.C k72 w A1 l1.length l1) (hc1 : l1.length ≤ c1) (hr2 : Kd.C (Kd.int .i64) w A2 l2.length l2) (hc2 : l2.length ≤ c2) (h : spec_l21Cost.f k l0 l1 l2 = some r) :
  Calls Try.prog 139 #[.slice A0 l0.length c0, .slice A1 l1.length c1, .slice A2 l2.length c2] w fun e w' => e = .returned (.int .i64 r) ∧ Drawn0 w w' := by
 obtain ⟨HR0, HC0, HR1, HC1, HR2, HC2⟩ := zD6 hr0 hc0 hr1 hc1 hr2 hc2
 clear hr0 hc0 hr1 hc1 hr2 hc2
 have H : (spec_l21Cost.l0 k l0 l1 l2 0 0) = some r := h
 clear h
 have H' := za H
 clear H
 go_enter Try.func139, Try.ntmps139
 go_wp2
 repeat (go_quiet (fail); try go_wp2)
 go_loopg [7, 8] k (fun kq v7 v8 w' => ∃ (x7_1 : Int) (x8_1 : Int), v7 = .int .i64 x7_1 ∧ v8 = .int .i64 x8_1 ∧ Aside0 (spec_l21Cost.l0 kq l0 l1 l2 x7_1 x8_1 = some r) ∧ Aside0 (kq ≤ k) ∧ Drawn0 w w')
 case atStart => exact ⟨(0), (0), zG129, zG129, H', ⟨Nat.le_refl _⟩, zH120⟩
 case round =>
  clear H'
  try clear c1
  try clear c2
  obtain ⟨x7_1, x8_1, rfl, rfl, HA, HK1, ⟨m1, rfl⟩⟩ := hrel
  cases gk with
  | zero => exact absurd HA.out (by simp [spec_l21Cost.l0])
  | succ k1 =>
   have H := HA.out
   clear HA
   simp only [spec_l21Cost.l0] at H
   by_cases c4 : x8_1 < (l2.length : Int)
   rotate_left
   ·rw [if_neg c4] at H
    have c4b0 := decide_eq_false c4
    clear c4
    obtain rfl := Option.some.inj H
    go_wp2
    repeat (go_quiet (fail); try go_wp2)
    go_ret
    exact zH91

   rw [if_pos c4] at H
   have c4b0 := decide_eq_true c4
   clear c4
   by_cases c5 : 0 ≤ x8_1
   rotate_left
   ·rw [if_neg c5] at H
    exact absurd H (by simp)
   rw [if_pos c5] at H
   have c5b0 := decide_eq_true c5
   clear c5
   by_cases c6 : x8_1 < (l0.length : Int)
   rotate_left
   ·rw [if_neg c6] at H
    exact absurd H (by simp)
   rw [if_pos c6] at H
   have c6b0 := decide_eq_true c6
   clear c6
   by_cases c7 : 0 ≤ (rd l2 x8_1)
   rotate_left
   ·rw [if_neg c7] at H
    exact absurd H (by simp)
   rw [if_pos c7] at H
   have c7b0 := decide_eq_true c7
   clear c7
   by_cases c8 : (rd l2 x8_1) < (l1.length : Int)
   rotate_left
   ·rw [if_neg c8] at H
    exact absurd H (by simp)
   rw [if_pos c8] at H
   have c8b0 := decide_eq_true c8
   clear c8
   have H' := za H
   clear H
   have p325 : 0 ≤ (x8_1 : Int) := zO
   have q325 : x8_1 < (l0.length : Int) := zO
   obtain ⟨ad325, e325, hx325_0, hx325_1, hx325_2⟩ := at_T139 HR0.out x8_1 p325 q325
   cases e325
   replace p325 := eq_true p325
   replace q325 := eq_true q325
   have p326 : 0 ≤ (x8_1 : Int) := zO
   have q326 : x8_1 < (l0.length : Int) := zO
   obtain ⟨ad326, e326, hx326_0, hx326_1, hx326_2⟩ := at_T139 HR0.out x8_1 p326 q326
   obtain rfl : ad325 = ad326 := (by injection e326)
   replace p326 := eq_true p326
   replace q326 := eq_true q326
   have p327 : 0 ≤ (x8_1 : Int) := zO
   have q327 : x8_1 < (l2.length : Int) := zO
   obtain ⟨ad327, e327, hx327_0⟩ := zbf HR2.out x8_1 p327 q327
   cases e327
   replace p327 := eq_true p327
   replace q327 := eq_true q327
   have p328 : 0 ≤ ((rd l2 x8_1) : Int) := zO
   have q328 : (rd l2 x8_1) < (l1.length : Int) := zO
   obtain ⟨ad328, A328_4, c328_4, e328, hx328_0, hx328_1, hx328_2, hx328_3, hx328_4, hl328_4, hi328_4⟩ := at_T72 HR1.out (rd l2 x8_1) p328 q328
   cases e328
   obtain ⟨HR328_4, HC328_4⟩ := zD2 hi328_4 hl328_4
   clear hi328_4 hl328_4
   replace p328 := eq_true p328
   replace q328 := eq_true q328
   go_wp2
   repeat (go_quiet (fail); try go_wp2)
   go_roundg k1
   case measure => have := HK1.out; omega
   case rel => exact ⟨(wrap64 (x7_1 + (wrap64 ((wrap64 (((rd_T139 l0 x8_1).f1) - ((rd_T139 l0 x8_1).f0))) * ((rd_T72 l1 (rd l2 x8_1)).f3))))), (wrap64 (x8_1 + 1)), zG129, zG129, H', ⟨zH128⟩, zH120⟩
/-! ### spec_l00Has: function 152 -/
def spec_l00Has.l0 : Nat → List ByteArray → ByteArray → Int → Option (Bool)
 | 0, _, _, _ => none
 | k + 1, x0, x1, x5 => if x5 < (x0.length : Int) then (if 0 ≤ x5 then (if (rdOf ByteArray.empty x0 x5).toList = x1.toList then (some true) else (spec_l00Has.l0 k x0 x1 (wrap64 (x5 + 1)))) else (none)) else (some false)
def spec_l00Has.f (k : Nat) (l0 : List ByteArray) (a1 : ByteArray) : Option (Bool) := spec_l00Has.l0 k l0 a1 0
theorem spec_l00Has.mono_l : ∀ k, (∀ y0 y1 y2, LeO (spec_l00Has.l0 k y0 y1 y2) (spec_l00Has.l0 (k + 1) y0 y1 y2))
 | 0 => fun _ _ _ r h => by simp [spec_l00Has.l0] at h
 | k + 1 => by
  have ih0 := spec_l00Has.mono_l k
  ·intro y0 y1 y2
   unfold spec_l00Has.l0
   repeat' first
   | (with_reducible exact ih0 _ _ _)
   | (with_reducible exact LeO.refl _)
   | (with_reducible exact LeO.none _)
   | (with_reducible refine LeO.ite ?_ ?_)
   | (with_reducible refine LeO.bind ?_ (fun _ => ?_))
   | exact ih0 _ _ _
   | exact LeO.none _
   | refine LeO.ite ?_ ?_
   | refine LeO.bind ?_ (fun _ => ?_)
theorem spec_l00Has.mono : ∀ a0 a1 k, LeO (spec_l00Has.f k a0 a1) (spec_l00Has.f (k + 1) a0 a1) := by
 intro a0 a1 k
 have ih0 := spec_l00Has.mono_l k
 unfold spec_l00Has.f
 repeat' first
   | (with_reducible exact ih0 _ _ _)
   | (with_reducible exact LeO.refl _)
   | (with_reducible exact LeO.none _)
   | (with_reducible refine LeO.ite ?_ ?_)
   | (with_reducible refine LeO.bind ?_ (fun _ => ?_))
   | exact ih0 _ _ _
   | exact LeO.none _
   | refine LeO.ite ?_ ?_
   | refine LeO.bind ?_ (fun _ => ?_)
set_option maxHeartbeats 64000000 in
set_option maxRecDepth 100000 in
theorem spec_l00Has.calls (k : Nat) (A0 : Option Addr) (c0 : Nat) (l0 : List ByteArray) (a1 : ByteArray) (r : Bool) (w : World) (hr0 : Kd.C Kd.string w A0 l0.length l0) (hc0 : l0.length ≤ c0) (h : spec_l00Has.f k l0 a1 = some r) :
  Calls Try.prog 152 #[.slice A0 l0.length c0, .string a1] w fun e w' => e = .returned (.bool r) ∧ Drawn0 w w' := by
 obtain ⟨HR0, HC0⟩ := zD2 hr0 hc0
 clear hr0 hc0
 have H : (spec_l00Has.l0 k l0 a1 0) = some r := h
 clear h
 have H' := za H
 clear H
 go_enter Try.func152, Try.ntmps152
 go_wp2
 go_loopg [5] k (fun kq v5 w' => ∃ (x5_1 : Int), v5 = .int .i64 x5_1 ∧ Aside0 (spec_l00Has.l0 kq l0 a1 x5_1 = some r) ∧ Aside0 (kq ≤ k) ∧ Drawn0 w w')
 case atStart => exact ⟨(0), zG129, H', ⟨Nat.le_refl _⟩, zH120⟩
 case round =>
  clear H'
  obtain ⟨x5_1, rfl, HA, HK1, ⟨m1, rfl⟩⟩ := hrel
  cases gk with
  | zero => exact absurd HA.out (by simp [spec_l00Has.l0])
  | succ k1 =>
   have H := HA.out
   clear HA
   simp only [spec_l00Has.l0] at H
   by_cases c3 : x5_1 < (l0.length : Int)
   rotate_left
   ·rw [if_neg c3] at H
    have c3b0 := decide_eq_false c3
    clear c3
    obtain rfl := Option.some.inj H
    go_wp2
    go_ret
    exact zH91

   rw [if_pos c3] at H
   have c3b0 := decide_eq_true c3
   clear c3
   by_cases c4 : 0 ≤ x5_1
   rotate_left
   ·rw [if_neg c4] at H
    exact absurd H (by simp)
   rw [if_pos c4] at H
   have c4b0 := decide_eq_true c4
   clear c4
   by_cases c5 : (rdOf ByteArray.empty l0 x5_1).toList = a1.toList
   ·rw [if_pos c5] at H
    have c5b0 : ((rdOf ByteArray.empty l0 x5_1).toList == a1.toList) = true := beq_iff_eq.mpr c5
    have c5b1 : ((rdOf ByteArray.empty l0 x5_1).toList != a1.toList) = false := bne_eq_false_iff_eq.mpr c5
    clear c5
    obtain rfl := Option.some.inj H
    have p329 : 0 ≤ (x5_1 : Int) := zO
    have q329 : x5_1 < (l0.length : Int) := zO
    obtain ⟨ad329, e329, hx329_0⟩ := zbg HR0.out x5_1 p329 q329
    cases e329
    replace p329 := eq_true p329
    replace q329 := eq_true q329
    go_wp2
    go_ret
    exact zH91
   rw [if_neg c5] at H
   have c5b0 : ((rdOf ByteArray.empty l0 x5_1).toList == a1.toList) = false := beq_eq_false_iff_ne.mpr c5
   have c5b1 : ((rdOf ByteArray.empty l0 x5_1).toList != a1.toList) = true := bne_iff_ne.mpr c5
   have H' := za H
   clear H
   have p329 : 0 ≤ (x5_1 : Int) := zO
   have q329 : x5_1 < (l0.length : Int) := zO
   obtain ⟨ad329, e329, hx329_0⟩ := zbg HR0.out x5_1 p329 q329
   cases e329
   replace p329 := eq_true p329
   replace q329 := eq_true q329
   go_wp2
   go_roundg k1
   case measure => have := HK1.out; omega
   case rel => exact ⟨(wrap64 (x5_1 + 1)), zG129, H', ⟨zH128⟩, zH120⟩
/-! ### spec_l21Code: function 140 -/
def spec_l21Code.l0 : Nat → List (S139) → List Int → Int → Int → Bool → Int → ByteArray → Int → Int → Int → List ByteArray → Option (Int)
 | 0, _, _, _, _, _, _, _, _, _, _, _ => none
 | k + 1, x0, x2, x3, x10, x11, x12, x333000, x333001, x333002, x333003, x333004 => if x12 < x3 then (if 0 ≤ x12 then (if x12 < (x2.length : Int) then (if 0 ≤ x3 then (if x3 < (x2.length : Int) then (if (rd x2 x12) = (rd x2 x3) then (if x12 < (x0.length : Int) then (if x11 = true then (spec_l21Code.l0 k x0 x2 x3 (wrap64 (x10 + (wrap64 (((rd_T139 x0 x12).f1) - ((rd_T139 x0 x12).f0))))) true (wrap64 (x12 + 1)) x333000 x333001 x333002 x333003 x333004) else (if x3 < (x0.length : Int) then (spec_l21Code.l0 k x0 x2 x3 (wrap64 (x10 + (wrap64 (((rd_T139 x0 x12).f1) - ((rd_T139 x0 x12).f0))))) (decide (((rd_T139 x0 x3).f0) < (wrap64 (((rd_T139 x0 x12).f1) + x333002)))) (wrap64 (x12 + 1)) x333000 x333001 x333002 x333003 x333004) else (none))) else (none)) else (spec_l21Code.l0 k x0 x2 x3 x10 x11 (wrap64 (x12 + 1)) x333000 x333001 x333002 x333003 x333004)) else (none)) else (none)) else (none)) else (none)) else (if x11 = true then (some 12) else (if x10 > x333001 then (some 11) else (some 0)))
def spec_l21Code.f (k : Nat) (l0 : List (S139)) (l1 : List (S72)) (l2 : List Int) (a3 : Int) : Option (Int) := if 0 ≤ a3 then (if a3 < (l2.length : Int) then (if 0 ≤ (rd l2 a3) then (if (rd l2 a3) < (l1.length : Int) then (if a3 < (l0.length : Int) then ((spec_l00Has.f k ((rd_T72 l1 (rd l2 a3)).f4) ((rd_T139 l0 a3).f2)).bind fun t334 => (if t334 = true then (spec_l21Code.l0 k l0 l2 a3 (wrap64 (((rd_T139 l0 a3).f1) - ((rd_T139 l0 a3).f0))) false 0 ((rd_T72 l1 (rd l2 a3)).f0) ((rd_T72 l1 (rd l2 a3)).f1) ((rd_T72 l1 (rd l2 a3)).f2) ((rd_T72 l1 (rd l2 a3)).f3) ((rd_T72 l1 (rd l2 a3)).f4)) else (some 13))) else (none)) else (none)) else (none)) else (none)) else (none)
theorem spec_l21Code.mono_l : ∀ k, (∀ y0 y1 y2 y3 y4 y5 y6 y7 y8 y9 y10, LeO (spec_l21Code.l0 k y0 y1 y2 y3 y4 y5 y6 y7 y8 y9 y10) (spec_l21Code.l0 (k + 1) y0 y1 y2 y3 y4 y5 y6 y7 y8 y9 y10))
 | 0 => fun _ _ _ _ _ _ _ _ _ _ _ r h => by simp [spec_l21Code.l0] at h
 | k + 1 => by
  have ih0 := spec_l21Code.mono_l k
  ·intro y0 y1 y2 y3 y4 y5 y6 y7 y8 y9 y10
   unfold spec_l21Code.l0
   repeat' first
   | (with_reducible exact ih0 _ _ _ _ _ _ _ _ _ _ _)
   | (with_reducible exact spec_l00Has.mono _ _ _)
   | (with_reducible exact LeO.refl _)
   | (with_reducible exact LeO.none _)
   | (with_reducible refine LeO.ite ?_ ?_)
   | (with_reducible refine LeO.bind ?_ (fun _ => ?_))
   | exact ih0 _ _ _ _ _ _ _ _ _ _ _
   | exact spec_l00Has.mono _ _ _
   | exact LeO.none _
   | refine LeO.ite ?_ ?_
   | refine LeO.bind ?_ (fun _ => ?_)
theorem spec_l21Code.mono : ∀ a0 a1 a2 a3 k, LeO (spec_l21Code.f k a0 a1 a2 a3) (spec_l21Code.f (k + 1) a0 a1 a2 a3) := by
 intro a0 a1 a2 a3 k
 have ih0 := spec_l21Code.mono_l k
 unfold spec_l21Code.f
 repeat' first
   | (with_reducible exact ih0 _ _ _ _ _ _ _ _ _ _ _)
   | (with_reducible exact spec_l00Has.mono _ _ _)
   | (with_reducible exact LeO.refl _)
   | (with_reducible exact LeO.none _)
   | (with_reducible refine LeO.ite ?_ ?_)
   | (with_reducible refine LeO.bind ?_ (fun _ => ?_))
   | exact ih0 _ _ _ _ _ _ _ _ _ _ _
   | exact spec_l00Has.mono _ _ _
   | exact LeO.none _
   | refine LeO.ite ?_ ?_
   | refine LeO.bind ?_ (fun _ => ?_)
set_option maxHeartbeats 64000000 in
set_option maxRecDepth 100000 in
theorem spec_l21Code.calls (k : Nat) (A0 : Option Addr) (c0 : Nat) (l0 : List (S139)) (A1 : Option Addr) (c1 : Nat) (l1 : List (S72)) (A2 : Option Addr) (c2 : Nat) (l2 : List Int) (a3 : Int) (r : Int) (w : World) (hr0 : Kd.C k139 w A0 l0.length l0) (hc0 : l0.length ≤ c0) (hr1 : Kd.C k72 w A1 l1.length l1) (hc1 : l1.length ≤ c1) (hr2 : Kd.C (Kd.int .i64) w A2 l2.length l2) (hc2 : l2.length ≤ c2) (h : spec_l21Code.f k l0 l1 l2 a3 = some r) :
  Calls Try.prog 140 #[.slice A0 l0.length c0, .slice A1 l1.length c1, .slice A2 l2.length c2, .int .i64 a3] w fun e w' => e = .returned (.int .i64 r) ∧ Below w.heap.size w w' := by
 have hu72 := Try.underlying72
 obtain ⟨HR0, HC0, HR1, HC1, HR2, HC2, HB⟩ := zD7 hr0 hc0 hr1 hc1 hr2 hc2 (Below.refl w.heap.size w)
 clear hr0 hc0 hr1 hc1 hr2 hc2
 have H : (if 0 ≤ a3 then (if a3 < (l2.length : Int) then (if 0 ≤ (rd l2 a3) then (if (rd l2 a3) < (l1.length : Int) then (if a3 < (l0.length : Int) then ((spec_l00Has.f k ((rd_T72 l1 (rd l2 a3)).f4) ((rd_T139 l0 a3).f2)).bind fun t334 => (if t334 = true then (spec_l21Code.l0 k l0 l2 a3 (wrap64 (((rd_T139 l0 a3).f1) - ((rd_T139 l0 a3).f0))) false 0 ((rd_T72 l1 (rd l2 a3)).f0) ((rd_T72 l1 (rd l2 a3)).f1) ((rd_T72 l1 (rd l2 a3)).f2) ((rd_T72 l1 (rd l2 a3)).f3) ((rd_T72 l1 (rd l2 a3)).f4)) else (some 13))) else (none)) else (none)) else (none)) else (none)) else (none)) = some r := h
 clear h
 by_cases c5 : 0 ≤ a3
 rotate_left
 ·rw [if_neg c5] at H
  exact absurd H (by simp)

 rw [if_pos c5] at H
 have c5b0 := decide_eq_true c5
 clear c5
 by_cases c6 : a3 < (l2.length : Int)
 rotate_left
 ·rw [if_neg c6] at H
  exact absurd H (by simp)
 rw [if_pos c6] at H
 have c6b0 := decide_eq_true c6
 clear c6
 by_cases c7 : 0 ≤ (rd l2 a3)
 rotate_left
 ·rw [if_neg c7] at H
  exact absurd H (by simp)
 rw [if_pos c7] at H
 have c7b0 := decide_eq_true c7
 clear c7
 by_cases c8 : (rd l2 a3) < (l1.length : Int)
 rotate_left
 ·rw [if_neg c8] at H
  exact absurd H (by simp)
 rw [if_pos c8] at H
 have c8b0 := decide_eq_true c8
 clear c8
 by_cases c9 : a3 < (l0.length : Int)
 rotate_left
 ·rw [if_neg c9] at H
  exact absurd H (by simp)
 rw [if_pos c9] at H
 have c9b0 := decide_eq_true c9
 clear c9
 replace H := Option.bind_eq_some_iff.mp H
 obtain ⟨t334, A100, H⟩ := H
 replace H : (if t334 = true then (spec_l21Code.l0 k l0 l2 a3 (wrap64 (((rd_T139 l0 a3).f1) - ((rd_T139 l0 a3).f0))) false 0 ((rd_T72 l1 (rd l2 a3)).f0) ((rd_T72 l1 (rd l2 a3)).f1) ((rd_T72 l1 (rd l2 a3)).f2) ((rd_T72 l1 (rd l2 a3)).f3) ((rd_T72 l1 (rd l2 a3)).f4)) else (some 13)) = some r := H
 have A10 := za A100
 clear A100
 by_cases c11 : t334 = true
 rotate_left
 ·replace c11 := Bool.eq_false_iff.mpr c11
  subst c11
  have H1 : (some 13) = some r := by rw [if_neg (show ¬ (false = true) by decide)] at H; exact H
  clear H
  have H := H1
  clear H1
  obtain rfl := Option.some.inj H
  have p330 : 0 ≤ (a3 : Int) := zO
  have q330 : a3 < (l2.length : Int) := zO
  obtain ⟨ad330, e330, hx330_0⟩ := zbf HR2.out a3 p330 q330
  cases e330
  replace p330 := eq_true p330
  replace q330 := eq_true q330
  have p331 : 0 ≤ ((rd l2 a3) : Int) := zO
  have q331 : (rd l2 a3) < (l1.length : Int) := zO
  obtain ⟨ad331, A331_4, c331_4, e331, hx331_0, hx331_1, hx331_2, hx331_3, hx331_4, hl331_4, hi331_4⟩ := at_T72 HR1.out (rd l2 a3) p331 q331
  cases e331
  obtain ⟨HR331_4, HC331_4⟩ := zD2 hi331_4 hl331_4
  clear hi331_4 hl331_4
  replace p331 := eq_true p331
  replace q331 := eq_true q331
  go_enter Try.func140, Try.ntmps140
  go_wp2_with (first | ((with_reducible refine gate_dst (N := 9) rfl ?_); refine box_event ?hg (N := 9) ?hd (cs := #[.string (⟨#[]⟩ : ByteArray), .int .i64 0, .int .i64 0, .int .i64 0, .slice none 0 0]) (t := 72) ?hr ?_; (case hd => rfl); (case hg => rfl); (case hr => exact zH125); intro gb332 hg w28 hbox hb; have n_ := zA_ (za (zr zG102 hb)) (zA_ (za (hbox)) (zA_ (zN1 w.heap.size hg (zo zG102)) (zN1 w.heap.size hg (zo zG102)))); clear HB; obtain ⟨HB, BK332, GW332, GE332⟩ := n_; clear hb hbox hg; obtain ⟨hcz29_0, hcz29_1, hcz29_2, hcz29_3, hcz29_4, hfz29_0, hfz29_1, hfz29_2, hfz29_3, hfz29_4⟩ := zB5 BK332.out; have p333 : 0 ≤ (a3 : Int) := zO; have q333 : a3 < (l0.length : Int) := zO; obtain ⟨ad333, e333, hx333_0, hx333_1, hx333_2⟩ := at_T139 HR0.out a3 p333 q333; cases e333; have hn333_0 : ad333.block ≠ gb332 := Nat.ne_of_lt (Nat.lt_of_lt_of_le zG128 GW332.out); have hn333_1 : ad333.block ≠ gb332 := Nat.ne_of_lt (Nat.lt_of_lt_of_le zG128 GW332.out); have hn333_2 : ad333.block ≠ gb332 := Nat.ne_of_lt (Nat.lt_of_lt_of_le zG128 GW332.out); have hn333_3 : ad333.block ≠ gb332 := Nat.ne_of_lt (Nat.lt_of_lt_of_le zG128 GW332.out); have hn333_4 : ad333.block ≠ gb332 := Nat.ne_of_lt (Nat.lt_of_lt_of_le zG128 GW332.out); replace hx333_0 := (HB.out.cell (zb w _ hx333_0)).trans hx333_0; replace hx333_1 := (HB.out.cell (zb w _ hx333_1)).trans hx333_1; replace hx333_2 := (HB.out.cell (zb w _ hx333_2)).trans hx333_2; replace hx333_0 := (cell_far (p := ⟨gb332, 0, none⟩) zG97 (.string ((rd_T72 l1 (rd l2 a3)).f0))).trans hx333_0; replace hx333_1 := (cell_far (p := ⟨gb332, 0, none⟩) zG97 (.string ((rd_T72 l1 (rd l2 a3)).f0))).trans hx333_1; replace hx333_2 := (cell_far (p := ⟨gb332, 0, none⟩) zG97 (.string ((rd_T72 l1 (rd l2 a3)).f0))).trans hx333_2; replace hx333_0 := (cell_far (p := ⟨gb332, 1, none⟩) zG98 (.int .i64 ((rd_T72 l1 (rd l2 a3)).f1))).trans hx333_0; replace hx333_1 := (cell_far (p := ⟨gb332, 1, none⟩) zG98 (.int .i64 ((rd_T72 l1 (rd l2 a3)).f1))).trans hx333_1; replace hx333_2 := (cell_far (p := ⟨gb332, 1, none⟩) zG98 (.int .i64 ((rd_T72 l1 (rd l2 a3)).f1))).trans hx333_2; replace hx333_0 := (cell_far (p := ⟨gb332, 2, none⟩) zG99 (.int .i64 ((rd_T72 l1 (rd l2 a3)).f2))).trans hx333_0; replace hx333_1 := (cell_far (p := ⟨gb332, 2, none⟩) zG99 (.int .i64 ((rd_T72 l1 (rd l2 a3)).f2))).trans hx333_1; replace hx333_2 := (cell_far (p := ⟨gb332, 2, none⟩) zG99 (.int .i64 ((rd_T72 l1 (rd l2 a3)).f2))).trans hx333_2; replace hx333_0 := (cell_far (p := ⟨gb332, 3, none⟩) zG100 (.int .i64 ((rd_T72 l1 (rd l2 a3)).f3))).trans hx333_0; replace hx333_1 := (cell_far (p := ⟨gb332, 3, none⟩) zG100 (.int .i64 ((rd_T72 l1 (rd l2 a3)).f3))).trans hx333_1; replace hx333_2 := (cell_far (p := ⟨gb332, 3, none⟩) zG100 (.int .i64 ((rd_T72 l1 (rd l2 a3)).f3))).trans hx333_2; replace hx333_0 := (cell_far (p := ⟨gb332, 4, none⟩) zG101 (.slice A331_4 ((rd_T72 l1 (rd l2 a3)).f4).length c331_4)).trans hx333_0; replace hx333_1 := (cell_far (p := ⟨gb332, 4, none⟩) zG101 (.slice A331_4 ((rd_T72 l1 (rd l2 a3)).f4).length c331_4)).trans hx333_1; replace hx333_2 := (cell_far (p := ⟨gb332, 4, none⟩) zG101 (.slice A331_4 ((rd_T72 l1 (rd l2 a3)).f4).length c331_4)).trans hx333_2; (try have hy333_0 := fun (n_ : Nat) => (show (((((((w28.drewN n_).setCell ⟨gb332, 0, none⟩ (.string ((rd_T72 l1 (rd l2 a3)).f0))).setCell ⟨gb332, 1, none⟩ (.int .i64 ((rd_T72 l1 (rd l2 a3)).f1))).setCell ⟨gb332, 2, none⟩ (.int .i64 ((rd_T72 l1 (rd l2 a3)).f2))).setCell ⟨gb332, 3, none⟩ (.int .i64 ((rd_T72 l1 (rd l2 a3)).f3))).setCell ⟨gb332, 4, none⟩ (.slice A331_4 ((rd_T72 l1 (rd l2 a3)).f4).length c331_4))).cell? _ = some _ from hx333_0)); (try have hy333_1 := fun (n_ : Nat) => (show (((((((w28.drewN n_).setCell ⟨gb332, 0, none⟩ (.string ((rd_T72 l1 (rd l2 a3)).f0))).setCell ⟨gb332, 1, none⟩ (.int .i64 ((rd_T72 l1 (rd l2 a3)).f1))).setCell ⟨gb332, 2, none⟩ (.int .i64 ((rd_T72 l1 (rd l2 a3)).f2))).setCell ⟨gb332, 3, none⟩ (.int .i64 ((rd_T72 l1 (rd l2 a3)).f3))).setCell ⟨gb332, 4, none⟩ (.slice A331_4 ((rd_T72 l1 (rd l2 a3)).f4).length c331_4))).cell? _ = some _ from hx333_1)); (try have hy333_2 := fun (n_ : Nat) => (show (((((((w28.drewN n_).setCell ⟨gb332, 0, none⟩ (.string ((rd_T72 l1 (rd l2 a3)).f0))).setCell ⟨gb332, 1, none⟩ (.int .i64 ((rd_T72 l1 (rd l2 a3)).f1))).setCell ⟨gb332, 2, none⟩ (.int .i64 ((rd_T72 l1 (rd l2 a3)).f2))).setCell ⟨gb332, 3, none⟩ (.int .i64 ((rd_T72 l1 (rd l2 a3)).f3))).setCell ⟨gb332, 4, none⟩ (.slice A331_4 ((rd_T72 l1 (rd l2 a3)).f4).length c331_4))).cell? _ = some _ from hx333_2)); clear hn333_0 hn333_1; clear hn333_2 hn333_3 hn333_4; replace p333 := eq_true p333; replace q333 := eq_true q333) | (go_at_call 152; (with_reducible refine (spec_l00Has.calls k _ _ ((rd_T72 l1 (rd l2 a3)).f4) ((rd_T139 l0 a3).f2) false _ ?side1 ?side2 A10.out).mono ?_); (case side1 => exact zH57); (case side2 => exact HC331_4.out); rintro e w' ⟨rfl, ⟨nd, rfl⟩⟩; (try first | exact ⟨rfl, _, World.drewN_drewN _ _ _⟩ | exact ⟨rfl, _, Eq.trans (World.drewN_drewN _ _ _) (congrArg (World.drewN _) (Nat.add_assoc _ _ _))⟩)))
  repeat (go_quiet (first | ((with_reducible refine gate_dst (N := 9) rfl ?_); refine box_event ?hg (N := 9) ?hd (cs := #[.string (⟨#[]⟩ : ByteArray), .int .i64 0, .int .i64 0, .int .i64 0, .slice none 0 0]) (t := 72) ?hr ?_; (case hd => rfl); (case hg => rfl); (case hr => exact zH125); intro gb332 hg w28 hbox hb; have n_ := zA_ (za (zr zG102 hb)) (zA_ (za (hbox)) (zA_ (zN1 w.heap.size hg (zo zG102)) (zN1 w.heap.size hg (zo zG102)))); clear HB; obtain ⟨HB, BK332, GW332, GE332⟩ := n_; clear hb hbox hg; obtain ⟨hcz29_0, hcz29_1, hcz29_2, hcz29_3, hcz29_4, hfz29_0, hfz29_1, hfz29_2, hfz29_3, hfz29_4⟩ := zB5 BK332.out; have p333 : 0 ≤ (a3 : Int) := zO; have q333 : a3 < (l0.length : Int) := zO; obtain ⟨ad333, e333, hx333_0, hx333_1, hx333_2⟩ := at_T139 HR0.out a3 p333 q333; cases e333; have hn333_0 : ad333.block ≠ gb332 := Nat.ne_of_lt (Nat.lt_of_lt_of_le zG128 GW332.out); have hn333_1 : ad333.block ≠ gb332 := Nat.ne_of_lt (Nat.lt_of_lt_of_le zG128 GW332.out); have hn333_2 : ad333.block ≠ gb332 := Nat.ne_of_lt (Nat.lt_of_lt_of_le zG128 GW332.out); have hn333_3 : ad333.block ≠ gb332 := Nat.ne_of_lt (Nat.lt_of_lt_of_le zG128 GW332.out); have hn333_4 : ad333.block ≠ gb332 := Nat.ne_of_lt (Nat.lt_of_lt_of_le zG128 GW332.out); replace hx333_0 := (HB.out.cell (zb w _ hx333_0)).trans hx333_0; replace hx333_1 := (HB.out.cell (zb w _ hx333_1)).trans hx333_1; replace hx333_2 := (HB.out.cell (zb w _ hx333_2)).trans hx333_2; replace hx333_0 := (cell_far (p := ⟨gb332, 0, none⟩) zG97 (.string ((rd_T72 l1 (rd l2 a3)).f0))).trans hx333_0; replace hx333_1 := (cell_far (p := ⟨gb332, 0, none⟩) zG97 (.string ((rd_T72 l1 (rd l2 a3)).f0))).trans hx333_1; replace hx333_2 := (cell_far (p := ⟨gb332, 0, none⟩) zG97 (.string ((rd_T72 l1 (rd l2 a3)).f0))).trans hx333_2; replace hx333_0 := (cell_far (p := ⟨gb332, 1, none⟩) zG98 (.int .i64 ((rd_T72 l1 (rd l2 a3)).f1))).trans hx333_0; replace hx333_1 := (cell_far (p := ⟨gb332, 1, none⟩) zG98 (.int .i64 ((rd_T72 l1 (rd l2 a3)).f1))).trans hx333_1; replace hx333_2 := (cell_far (p := ⟨gb332, 1, none⟩) zG98 (.int .i64 ((rd_T72 l1 (rd l2 a3)).f1))).trans hx333_2; replace hx333_0 := (cell_far (p := ⟨gb332, 2, none⟩) zG99 (.int .i64 ((rd_T72 l1 (rd l2 a3)).f2))).trans hx333_0; replace hx333_1 := (cell_far (p := ⟨gb332, 2, none⟩) zG99 (.int .i64 ((rd_T72 l1 (rd l2 a3)).f2))).trans hx333_1; replace hx333_2 := (cell_far (p := ⟨gb332, 2, none⟩) zG99 (.int .i64 ((rd_T72 l1 (rd l2 a3)).f2))).trans hx333_2; replace hx333_0 := (cell_far (p := ⟨gb332, 3, none⟩) zG100 (.int .i64 ((rd_T72 l1 (rd l2 a3)).f3))).trans hx333_0; replace hx333_1 := (cell_far (p := ⟨gb332, 3, none⟩) zG100 (.int .i64 ((rd_T72 l1 (rd l2 a3)).f3))).trans hx333_1; replace hx333_2 := (cell_far (p := ⟨gb332, 3, none⟩) zG100 (.int .i64 ((rd_T72 l1 (rd l2 a3)).f3))).trans hx333_2; replace hx333_0 := (cell_far (p := ⟨gb332, 4, none⟩) zG101 (.slice A331_4 ((rd_T72 l1 (rd l2 a3)).f4).length c331_4)).trans hx333_0; replace hx333_1 := (cell_far (p := ⟨gb332, 4, none⟩) zG101 (.slice A331_4 ((rd_T72 l1 (rd l2 a3)).f4).length c331_4)).trans hx333_1; replace hx333_2 := (cell_far (p := ⟨gb332, 4, none⟩) zG101 (.slice A331_4 ((rd_T72 l1 (rd l2 a3)).f4).length c331_4)).trans hx333_2; (try have hy333_0 := fun (n_ : Nat) => (show (((((((w28.drewN n_).setCell ⟨gb332, 0, none⟩ (.string ((rd_T72 l1 (rd l2 a3)).f0))).setCell ⟨gb332, 1, none⟩ (.int .i64 ((rd_T72 l1 (rd l2 a3)).f1))).setCell ⟨gb332, 2, none⟩ (.int .i64 ((rd_T72 l1 (rd l2 a3)).f2))).setCell ⟨gb332, 3, none⟩ (.int .i64 ((rd_T72 l1 (rd l2 a3)).f3))).setCell ⟨gb332, 4, none⟩ (.slice A331_4 ((rd_T72 l1 (rd l2 a3)).f4).length c331_4))).cell? _ = some _ from hx333_0)); (try have hy333_1 := fun (n_ : Nat) => (show (((((((w28.drewN n_).setCell ⟨gb332, 0, none⟩ (.string ((rd_T72 l1 (rd l2 a3)).f0))).setCell ⟨gb332, 1, none⟩ (.int .i64 ((rd_T72 l1 (rd l2 a3)).f1))).setCell ⟨gb332, 2, none⟩ (.int .i64 ((rd_T72 l1 (rd l2 a3)).f2))).setCell ⟨gb332, 3, none⟩ (.int .i64 ((rd_T72 l1 (rd l2 a3)).f3))).setCell ⟨gb332, 4, none⟩ (.slice A331_4 ((rd_T72 l1 (rd l2 a3)).f4).length c331_4))).cell? _ = some _ from hx333_1)); (try have hy333_2 := fun (n_ : Nat) => (show (((((((w28.drewN n_).setCell ⟨gb332, 0, none⟩ (.string ((rd_T72 l1 (rd l2 a3)).f0))).setCell ⟨gb332, 1, none⟩ (.int .i64 ((rd_T72 l1 (rd l2 a3)).f1))).setCell ⟨gb332, 2, none⟩ (.int .i64 ((rd_T72 l1 (rd l2 a3)).f2))).setCell ⟨gb332, 3, none⟩ (.int .i64 ((rd_T72 l1 (rd l2 a3)).f3))).setCell ⟨gb332, 4, none⟩ (.slice A331_4 ((rd_T72 l1 (rd l2 a3)).f4).length c331_4))).cell? _ = some _ from hx333_2)); clear hn333_0 hn333_1; clear hn333_2 hn333_3 hn333_4; replace p333 := eq_true p333; replace q333 := eq_true q333) | (go_at_call 152; (with_reducible refine (spec_l00Has.calls k _ _ ((rd_T72 l1 (rd l2 a3)).f4) ((rd_T139 l0 a3).f2) false _ ?side1 ?side2 A10.out).mono ?_); (case side1 => exact zH57); (case side2 => exact HC331_4.out); rintro e w' ⟨rfl, ⟨nd, rfl⟩⟩; (try first | exact ⟨rfl, _, World.drewN_drewN _ _ _⟩ | exact ⟨rfl, _, Eq.trans (World.drewN_drewN _ _ _) (congrArg (World.drewN _) (Nat.add_assoc _ _ _))⟩))); try go_wp2_with (first | ((with_reducible refine gate_dst (N := 9) rfl ?_); refine box_event ?hg (N := 9) ?hd (cs := #[.string (⟨#[]⟩ : ByteArray), .int .i64 0, .int .i64 0, .int .i64 0, .slice none 0 0]) (t := 72) ?hr ?_; (case hd => rfl); (case hg => rfl); (case hr => exact zH125); intro gb332 hg w28 hbox hb; have n_ := zA_ (za (zr zG102 hb)) (zA_ (za (hbox)) (zA_ (zN1 w.heap.size hg (zo zG102)) (zN1 w.heap.size hg (zo zG102)))); clear HB; obtain ⟨HB, BK332, GW332, GE332⟩ := n_; clear hb hbox hg; obtain ⟨hcz29_0, hcz29_1, hcz29_2, hcz29_3, hcz29_4, hfz29_0, hfz29_1, hfz29_2, hfz29_3, hfz29_4⟩ := zB5 BK332.out; have p333 : 0 ≤ (a3 : Int) := zO; have q333 : a3 < (l0.length : Int) := zO; obtain ⟨ad333, e333, hx333_0, hx333_1, hx333_2⟩ := at_T139 HR0.out a3 p333 q333; cases e333; have hn333_0 : ad333.block ≠ gb332 := Nat.ne_of_lt (Nat.lt_of_lt_of_le zG128 GW332.out); have hn333_1 : ad333.block ≠ gb332 := Nat.ne_of_lt (Nat.lt_of_lt_of_le zG128 GW332.out); have hn333_2 : ad333.block ≠ gb332 := Nat.ne_of_lt (Nat.lt_of_lt_of_le zG128 GW332.out); have hn333_3 : ad333.block ≠ gb332 := Nat.ne_of_lt (Nat.lt_of_lt_of_le zG128 GW332.out); have hn333_4 : ad333.block ≠ gb332 := Nat.ne_of_lt (Nat.lt_of_lt_of_le zG128 GW332.out); replace hx333_0 := (HB.out.cell (zb w _ hx333_0)).trans hx333_0; replace hx333_1 := (HB.out.cell (zb w _ hx333_1)).trans hx333_1; replace hx333_2 := (HB.out.cell (zb w _ hx333_2)).trans hx333_2; replace hx333_0 := (cell_far (p := ⟨gb332, 0, none⟩) zG97 (.string ((rd_T72 l1 (rd l2 a3)).f0))).trans hx333_0; replace hx333_1 := (cell_far (p := ⟨gb332, 0, none⟩) zG97 (.string ((rd_T72 l1 (rd l2 a3)).f0))).trans hx333_1; replace hx333_2 := (cell_far (p := ⟨gb332, 0, none⟩) zG97 (.string ((rd_T72 l1 (rd l2 a3)).f0))).trans hx333_2; replace hx333_0 := (cell_far (p := ⟨gb332, 1, none⟩) zG98 (.int .i64 ((rd_T72 l1 (rd l2 a3)).f1))).trans hx333_0; replace hx333_1 := (cell_far (p := ⟨gb332, 1, none⟩) zG98 (.int .i64 ((rd_T72 l1 (rd l2 a3)).f1))).trans hx333_1; replace hx333_2 := (cell_far (p := ⟨gb332, 1, none⟩) zG98 (.int .i64 ((rd_T72 l1 (rd l2 a3)).f1))).trans hx333_2; replace hx333_0 := (cell_far (p := ⟨gb332, 2, none⟩) zG99 (.int .i64 ((rd_T72 l1 (rd l2 a3)).f2))).trans hx333_0; replace hx333_1 := (cell_far (p := ⟨gb332, 2, none⟩) zG99 (.int .i64 ((rd_T72 l1 (rd l2 a3)).f2))).trans hx333_1; replace hx333_2 := (cell_far (p := ⟨gb332, 2, none⟩) zG99 (.int .i64 ((rd_T72 l1 (rd l2 a3)).f2))).trans hx333_2; replace hx333_0 := (cell_far (p := ⟨gb332, 3, none⟩) zG100 (.int .i64 ((rd_T72 l1 (rd l2 a3)).f3))).trans hx333_0; replace hx333_1 := (cell_far (p := ⟨gb332, 3, none⟩) zG100 (.int .i64 ((rd_T72 l1 (rd l2 a3)).f3))).trans hx333_1; replace hx333_2 := (cell_far (p := ⟨gb332, 3, none⟩) zG100 (.int .i64 ((rd_T72 l1 (rd l2 a3)).f3))).trans hx333_2; replace hx333_0 := (cell_far (p := ⟨gb332, 4, none⟩) zG101 (.slice A331_4 ((rd_T72 l1 (rd l2 a3)).f4).length c331_4)).trans hx333_0; replace hx333_1 := (cell_far (p := ⟨gb332, 4, none⟩) zG101 (.slice A331_4 ((rd_T72 l1 (rd l2 a3)).f4).length c331_4)).trans hx333_1; replace hx333_2 := (cell_far (p := ⟨gb332, 4, none⟩) zG101 (.slice A331_4 ((rd_T72 l1 (rd l2 a3)).f4).length c331_4)).trans hx333_2; (try have hy333_0 := fun (n_ : Nat) => (show (((((((w28.drewN n_).setCell ⟨gb332, 0, none⟩ (.string ((rd_T72 l1 (rd l2 a3)).f0))).setCell ⟨gb332, 1, none⟩ (.int .i64 ((rd_T72 l1 (rd l2 a3)).f1))).setCell ⟨gb332, 2, none⟩ (.int .i64 ((rd_T72 l1 (rd l2 a3)).f2))).setCell ⟨gb332, 3, none⟩ (.int .i64 ((rd_T72 l1 (rd l2 a3)).f3))).setCell ⟨gb332, 4, none⟩ (.slice A331_4 ((rd_T72 l1 (rd l2 a3)).f4).length c331_4))).cell? _ = some _ from hx333_0)); (try have hy333_1 := fun (n_ : Nat) => (show (((((((w28.drewN n_).setCell ⟨gb332, 0, none⟩ (.string ((rd_T72 l1 (rd l2 a3)).f0))).setCell ⟨gb332, 1, none⟩ (.int .i64 ((rd_T72 l1 (rd l2 a3)).f1))).setCell ⟨gb332, 2, none⟩ (.int .i64 ((rd_T72 l1 (rd l2 a3)).f2))).setCell ⟨gb332, 3, none⟩ (.int .i64 ((rd_T72 l1 (rd l2 a3)).f3))).setCell ⟨gb332, 4, none⟩ (.slice A331_4 ((rd_T72 l1 (rd l2 a3)).f4).length c331_4))).cell? _ = some _ from hx333_1)); (try have hy333_2 := fun (n_ : Nat) => (show (((((((w28.drewN n_).setCell ⟨gb332, 0, none⟩ (.string ((rd_T72 l1 (rd l2 a3)).f0))).setCell ⟨gb332, 1, none⟩ (.int .i64 ((rd_T72 l1 (rd l2 a3)).f1))).setCell ⟨gb332, 2, none⟩ (.int .i64 ((rd_T72 l1 (rd l2 a3)).f2))).setCell ⟨gb332, 3, none⟩ (.int .i64 ((rd_T72 l1 (rd l2 a3)).f3))).setCell ⟨gb332, 4, none⟩ (.slice A331_4 ((rd_T72 l1 (rd l2 a3)).f4).length c331_4))).cell? _ = some _ from hx333_2)); clear hn333_0 hn333_1; clear hn333_2 hn333_3 hn333_4; replace p333 := eq_true p333; replace q333 := eq_true q333) | (go_at_call 152; (with_reducible refine (spec_l00Has.calls k _ _ ((rd_T72 l1 (rd l2 a3)).f4) ((rd_T139 l0 a3).f2) false _ ?side1 ?side2 A10.out).mono ?_); (case side1 => exact zH57); (case side2 => exact HC331_4.out); rintro e w' ⟨rfl, ⟨nd, rfl⟩⟩; (try first | exact ⟨rfl, _, World.drewN_drewN _ _ _⟩ | exact ⟨rfl, _, Eq.trans (World.drewN_drewN _ _ _) (congrArg (World.drewN _) (Nat.add_assoc _ _ _))⟩))))
  go_ret
  exact zH30
 subst c11
 have H1 : (spec_l21Code.l0 k l0 l2 a3 (wrap64 (((rd_T139 l0 a3).f1) - ((rd_T139 l0 a3).f0))) false 0 ((rd_T72 l1 (rd l2 a3)).f0) ((rd_T72 l1 (rd l2 a3)).f1) ((rd_T72 l1 (rd l2 a3)).f2) ((rd_T72 l1 (rd l2 a3)).f3) ((rd_T72 l1 (rd l2 a3)).f4)) = some r := by rw [if_pos rfl] at H; exact H
 clear H
 have H := H1
 clear H1
 have H' := za H
 clear H
 have p330 : 0 ≤ (a3 : Int) := zO
 have q330 : a3 < (l2.length : Int) := zO
 obtain ⟨ad330, e330, hx330_0⟩ := zbf HR2.out a3 p330 q330
 cases e330
 replace p330 := eq_true p330
 replace q330 := eq_true q330
 have p331 : 0 ≤ ((rd l2 a3) : Int) := zO
 have q331 : (rd l2 a3) < (l1.length : Int) := zO
 obtain ⟨ad331, A331_4, c331_4, e331, hx331_0, hx331_1, hx331_2, hx331_3, hx331_4, hl331_4, hi331_4⟩ := at_T72 HR1.out (rd l2 a3) p331 q331
 cases e331
 obtain ⟨HR331_4, HC331_4⟩ := zD2 hi331_4 hl331_4
 clear hi331_4 hl331_4
 replace p331 := eq_true p331
 replace q331 := eq_true q331
 go_enter Try.func140, Try.ntmps140
 go_wp2_with (first | ((with_reducible refine gate_dst (N := 9) rfl ?_); refine box_event ?hg (N := 9) ?hd (cs := #[.string (⟨#[]⟩ : ByteArray), .int .i64 0, .int .i64 0, .int .i64 0, .slice none 0 0]) (t := 72) ?hr ?_; (case hd => rfl); (case hg => rfl); (case hr => exact zH125); intro gb332 hg w12 hbox hb; have n_ := zA_ (za (zr zG102 hb)) (zA_ (za (hbox)) (zA_ (zN1 w.heap.size hg (zo zG102)) (zN1 w.heap.size hg (zo zG102)))); clear HB; obtain ⟨HB, BK332, GW332, GE332⟩ := n_; clear hb hbox hg; obtain ⟨hcz13_0, hcz13_1, hcz13_2, hcz13_3, hcz13_4, hfz13_0, hfz13_1, hfz13_2, hfz13_3, hfz13_4⟩ := zB5 BK332.out; have p333 : 0 ≤ (a3 : Int) := zO; have q333 : a3 < (l0.length : Int) := zO; obtain ⟨ad333, e333, hx333_0, hx333_1, hx333_2⟩ := at_T139 HR0.out a3 p333 q333; cases e333; have hn333_0 : ad333.block ≠ gb332 := Nat.ne_of_lt (Nat.lt_of_lt_of_le zG128 GW332.out); have hn333_1 : ad333.block ≠ gb332 := Nat.ne_of_lt (Nat.lt_of_lt_of_le zG128 GW332.out); have hn333_2 : ad333.block ≠ gb332 := Nat.ne_of_lt (Nat.lt_of_lt_of_le zG128 GW332.out); have hn333_3 : ad333.block ≠ gb332 := Nat.ne_of_lt (Nat.lt_of_lt_of_le zG128 GW332.out); have hn333_4 : ad333.block ≠ gb332 := Nat.ne_of_lt (Nat.lt_of_lt_of_le zG128 GW332.out); replace hx333_0 := (HB.out.cell (zb w _ hx333_0)).trans hx333_0; replace hx333_1 := (HB.out.cell (zb w _ hx333_1)).trans hx333_1; replace hx333_2 := (HB.out.cell (zb w _ hx333_2)).trans hx333_2; replace hx333_0 := (cell_far (p := ⟨gb332, 0, none⟩) zG97 (.string ((rd_T72 l1 (rd l2 a3)).f0))).trans hx333_0; replace hx333_1 := (cell_far (p := ⟨gb332, 0, none⟩) zG97 (.string ((rd_T72 l1 (rd l2 a3)).f0))).trans hx333_1; replace hx333_2 := (cell_far (p := ⟨gb332, 0, none⟩) zG97 (.string ((rd_T72 l1 (rd l2 a3)).f0))).trans hx333_2; replace hx333_0 := (cell_far (p := ⟨gb332, 1, none⟩) zG98 (.int .i64 ((rd_T72 l1 (rd l2 a3)).f1))).trans hx333_0; replace hx333_1 := (cell_far (p := ⟨gb332, 1, none⟩) zG98 (.int .i64 ((rd_T72 l1 (rd l2 a3)).f1))).trans hx333_1; replace hx333_2 := (cell_far (p := ⟨gb332, 1, none⟩) zG98 (.int .i64 ((rd_T72 l1 (rd l2 a3)).f1))).trans hx333_2; replace hx333_0 := (cell_far (p := ⟨gb332, 2, none⟩) zG99 (.int .i64 ((rd_T72 l1 (rd l2 a3)).f2))).trans hx333_0; replace hx333_1 := (cell_far (p := ⟨gb332, 2, none⟩) zG99 (.int .i64 ((rd_T72 l1 (rd l2 a3)).f2))).trans hx333_1; replace hx333_2 := (cell_far (p := ⟨gb332, 2, none⟩) zG99 (.int .i64 ((rd_T72 l1 (rd l2 a3)).f2))).trans hx333_2; replace hx333_0 := (cell_far (p := ⟨gb332, 3, none⟩) zG100 (.int .i64 ((rd_T72 l1 (rd l2 a3)).f3))).trans hx333_0; replace hx333_1 := (cell_far (p := ⟨gb332, 3, none⟩) zG100 (.int .i64 ((rd_T72 l1 (rd l2 a3)).f3))).trans hx333_1; replace hx333_2 := (cell_far (p := ⟨gb332, 3, none⟩) zG100 (.int .i64 ((rd_T72 l1 (rd l2 a3)).f3))).trans hx333_2; replace hx333_0 := (cell_far (p := ⟨gb332, 4, none⟩) zG101 (.slice A331_4 ((rd_T72 l1 (rd l2 a3)).f4).length c331_4)).trans hx333_0; replace hx333_1 := (cell_far (p := ⟨gb332, 4, none⟩) zG101 (.slice A331_4 ((rd_T72 l1 (rd l2 a3)).f4).length c331_4)).trans hx333_1; replace hx333_2 := (cell_far (p := ⟨gb332, 4, none⟩) zG101 (.slice A331_4 ((rd_T72 l1 (rd l2 a3)).f4).length c331_4)).trans hx333_2; (try have hy333_0 := fun (n_ : Nat) => (show (((((((w12.drewN n_).setCell ⟨gb332, 0, none⟩ (.string ((rd_T72 l1 (rd l2 a3)).f0))).setCell ⟨gb332, 1, none⟩ (.int .i64 ((rd_T72 l1 (rd l2 a3)).f1))).setCell ⟨gb332, 2, none⟩ (.int .i64 ((rd_T72 l1 (rd l2 a3)).f2))).setCell ⟨gb332, 3, none⟩ (.int .i64 ((rd_T72 l1 (rd l2 a3)).f3))).setCell ⟨gb332, 4, none⟩ (.slice A331_4 ((rd_T72 l1 (rd l2 a3)).f4).length c331_4))).cell? _ = some _ from hx333_0)); (try have hy333_1 := fun (n_ : Nat) => (show (((((((w12.drewN n_).setCell ⟨gb332, 0, none⟩ (.string ((rd_T72 l1 (rd l2 a3)).f0))).setCell ⟨gb332, 1, none⟩ (.int .i64 ((rd_T72 l1 (rd l2 a3)).f1))).setCell ⟨gb332, 2, none⟩ (.int .i64 ((rd_T72 l1 (rd l2 a3)).f2))).setCell ⟨gb332, 3, none⟩ (.int .i64 ((rd_T72 l1 (rd l2 a3)).f3))).setCell ⟨gb332, 4, none⟩ (.slice A331_4 ((rd_T72 l1 (rd l2 a3)).f4).length c331_4))).cell? _ = some _ from hx333_1)); (try have hy333_2 := fun (n_ : Nat) => (show (((((((w12.drewN n_).setCell ⟨gb332, 0, none⟩ (.string ((rd_T72 l1 (rd l2 a3)).f0))).setCell ⟨gb332, 1, none⟩ (.int .i64 ((rd_T72 l1 (rd l2 a3)).f1))).setCell ⟨gb332, 2, none⟩ (.int .i64 ((rd_T72 l1 (rd l2 a3)).f2))).setCell ⟨gb332, 3, none⟩ (.int .i64 ((rd_T72 l1 (rd l2 a3)).f3))).setCell ⟨gb332, 4, none⟩ (.slice A331_4 ((rd_T72 l1 (rd l2 a3)).f4).length c331_4))).cell? _ = some _ from hx333_2)); clear hn333_0 hn333_1; clear hn333_2 hn333_3 hn333_4; replace p333 := eq_true p333; replace q333 := eq_true q333) | (go_at_call 152; (with_reducible refine (spec_l00Has.calls k _ _ ((rd_T72 l1 (rd l2 a3)).f4) ((rd_T139 l0 a3).f2) true _ ?side1 ?side2 A10.out).mono ?_); (case side1 => exact zH57); (case side2 => exact HC331_4.out); rintro e w' ⟨rfl, ⟨nd, rfl⟩⟩; (try first | exact ⟨rfl, _, World.drewN_drewN _ _ _⟩ | exact ⟨rfl, _, Eq.trans (World.drewN_drewN _ _ _) (congrArg (World.drewN _) (Nat.add_assoc _ _ _))⟩); have p335 : 0 ≤ (a3 : Int) := zO; have q335 : a3 < (l0.length : Int) := zO; obtain ⟨ad335, e335, hx335_0, hx335_1, hx335_2⟩ := at_T139 HR0.out a3 p335 q335; obtain rfl : ad333 = ad335 := (by injection e335); have hn335_0 : ad333.block ≠ gb332 := Nat.ne_of_lt (Nat.lt_of_lt_of_le zK262 GW332.out); have hn335_1 : ad333.block ≠ gb332 := Nat.ne_of_lt (Nat.lt_of_lt_of_le zK262 GW332.out); have hn335_2 : ad333.block ≠ gb332 := Nat.ne_of_lt (Nat.lt_of_lt_of_le zK262 GW332.out); have hn335_3 : ad333.block ≠ gb332 := Nat.ne_of_lt (Nat.lt_of_lt_of_le zK262 GW332.out); have hn335_4 : ad333.block ≠ gb332 := Nat.ne_of_lt (Nat.lt_of_lt_of_le zK262 GW332.out); replace hx335_0 := (HB.out.cell (zb w _ hx335_0)).trans hx335_0; replace hx335_1 := (HB.out.cell (zb w _ hx335_1)).trans hx335_1; replace hx335_2 := (HB.out.cell (zb w _ hx335_2)).trans hx335_2; replace hx335_0 := (cell_far (p := ⟨gb332, 0, none⟩) zK225 (.string ((rd_T72 l1 (rd l2 a3)).f0))).trans hx335_0; replace hx335_1 := (cell_far (p := ⟨gb332, 0, none⟩) zK225 (.string ((rd_T72 l1 (rd l2 a3)).f0))).trans hx335_1; replace hx335_2 := (cell_far (p := ⟨gb332, 0, none⟩) zK225 (.string ((rd_T72 l1 (rd l2 a3)).f0))).trans hx335_2; replace hx335_0 := (cell_far (p := ⟨gb332, 1, none⟩) zK226 (.int .i64 ((rd_T72 l1 (rd l2 a3)).f1))).trans hx335_0; replace hx335_1 := (cell_far (p := ⟨gb332, 1, none⟩) zK226 (.int .i64 ((rd_T72 l1 (rd l2 a3)).f1))).trans hx335_1; replace hx335_2 := (cell_far (p := ⟨gb332, 1, none⟩) zK226 (.int .i64 ((rd_T72 l1 (rd l2 a3)).f1))).trans hx335_2; replace hx335_0 := (cell_far (p := ⟨gb332, 2, none⟩) zK227 (.int .i64 ((rd_T72 l1 (rd l2 a3)).f2))).trans hx335_0; replace hx335_1 := (cell_far (p := ⟨gb332, 2, none⟩) zK227 (.int .i64 ((rd_T72 l1 (rd l2 a3)).f2))).trans hx335_1; replace hx335_2 := (cell_far (p := ⟨gb332, 2, none⟩) zK227 (.int .i64 ((rd_T72 l1 (rd l2 a3)).f2))).trans hx335_2; replace hx335_0 := (cell_far (p := ⟨gb332, 3, none⟩) zK228 (.int .i64 ((rd_T72 l1 (rd l2 a3)).f3))).trans hx335_0; replace hx335_1 := (cell_far (p := ⟨gb332, 3, none⟩) zK228 (.int .i64 ((rd_T72 l1 (rd l2 a3)).f3))).trans hx335_1; replace hx335_2 := (cell_far (p := ⟨gb332, 3, none⟩) zK228 (.int .i64 ((rd_T72 l1 (rd l2 a3)).f3))).trans hx335_2; replace hx335_0 := (cell_far (p := ⟨gb332, 4, none⟩) zK229 (.slice A331_4 ((rd_T72 l1 (rd l2 a3)).f4).length c331_4)).trans hx335_0; replace hx335_1 := (cell_far (p := ⟨gb332, 4, none⟩) zK229 (.slice A331_4 ((rd_T72 l1 (rd l2 a3)).f4).length c331_4)).trans hx335_1; replace hx335_2 := (cell_far (p := ⟨gb332, 4, none⟩) zK229 (.slice A331_4 ((rd_T72 l1 (rd l2 a3)).f4).length c331_4)).trans hx335_2; (try have hy335_0 := fun (n_ : Nat) => (show (((((((w12.drewN n_).setCell ⟨gb332, 0, none⟩ (.string ((rd_T72 l1 (rd l2 a3)).f0))).setCell ⟨gb332, 1, none⟩ (.int .i64 ((rd_T72 l1 (rd l2 a3)).f1))).setCell ⟨gb332, 2, none⟩ (.int .i64 ((rd_T72 l1 (rd l2 a3)).f2))).setCell ⟨gb332, 3, none⟩ (.int .i64 ((rd_T72 l1 (rd l2 a3)).f3))).setCell ⟨gb332, 4, none⟩ (.slice A331_4 ((rd_T72 l1 (rd l2 a3)).f4).length c331_4))).cell? _ = some _ from hx335_0)); (try have hy335_1 := fun (n_ : Nat) => (show (((((((w12.drewN n_).setCell ⟨gb332, 0, none⟩ (.string ((rd_T72 l1 (rd l2 a3)).f0))).setCell ⟨gb332, 1, none⟩ (.int .i64 ((rd_T72 l1 (rd l2 a3)).f1))).setCell ⟨gb332, 2, none⟩ (.int .i64 ((rd_T72 l1 (rd l2 a3)).f2))).setCell ⟨gb332, 3, none⟩ (.int .i64 ((rd_T72 l1 (rd l2 a3)).f3))).setCell ⟨gb332, 4, none⟩ (.slice A331_4 ((rd_T72 l1 (rd l2 a3)).f4).length c331_4))).cell? _ = some _ from hx335_1)); (try have hy335_2 := fun (n_ : Nat) => (show (((((((w12.drewN n_).setCell ⟨gb332, 0, none⟩ (.string ((rd_T72 l1 (rd l2 a3)).f0))).setCell ⟨gb332, 1, none⟩ (.int .i64 ((rd_T72 l1 (rd l2 a3)).f1))).setCell ⟨gb332, 2, none⟩ (.int .i64 ((rd_T72 l1 (rd l2 a3)).f2))).setCell ⟨gb332, 3, none⟩ (.int .i64 ((rd_T72 l1 (rd l2 a3)).f3))).setCell ⟨gb332, 4, none⟩ (.slice A331_4 ((rd_T72 l1 (rd l2 a3)).f4).length c331_4))).cell? _ = some _ from hx335_2)); clear hn335_0 hn335_1; clear hn335_2 hn335_3 hn335_4; replace p335 := eq_true p335; replace q335 := eq_true q335; have p336 : 0 ≤ (a3 : Int) := zO; have q336 : a3 < (l0.length : Int) := zO; obtain ⟨ad336, e336, hx336_0, hx336_1, hx336_2⟩ := at_T139 HR0.out a3 p336 q336; obtain rfl : ad333 = ad336 := (by injection e336); have hn336_0 : ad333.block ≠ gb332 := Nat.ne_of_lt (Nat.lt_of_lt_of_le zK263 GW332.out); have hn336_1 : ad333.block ≠ gb332 := Nat.ne_of_lt (Nat.lt_of_lt_of_le zK263 GW332.out); have hn336_2 : ad333.block ≠ gb332 := Nat.ne_of_lt (Nat.lt_of_lt_of_le zK263 GW332.out); have hn336_3 : ad333.block ≠ gb332 := Nat.ne_of_lt (Nat.lt_of_lt_of_le zK263 GW332.out); have hn336_4 : ad333.block ≠ gb332 := Nat.ne_of_lt (Nat.lt_of_lt_of_le zK263 GW332.out); replace hx336_0 := (HB.out.cell (zb w _ hx336_0)).trans hx336_0; replace hx336_1 := (HB.out.cell (zb w _ hx336_1)).trans hx336_1; replace hx336_2 := (HB.out.cell (zb w _ hx336_2)).trans hx336_2; replace hx336_0 := (cell_far (p := ⟨gb332, 0, none⟩) zK230 (.string ((rd_T72 l1 (rd l2 a3)).f0))).trans hx336_0; replace hx336_1 := (cell_far (p := ⟨gb332, 0, none⟩) zK230 (.string ((rd_T72 l1 (rd l2 a3)).f0))).trans hx336_1; replace hx336_2 := (cell_far (p := ⟨gb332, 0, none⟩) zK230 (.string ((rd_T72 l1 (rd l2 a3)).f0))).trans hx336_2; replace hx336_0 := (cell_far (p := ⟨gb332, 1, none⟩) zK231 (.int .i64 ((rd_T72 l1 (rd l2 a3)).f1))).trans hx336_0; replace hx336_1 := (cell_far (p := ⟨gb332, 1, none⟩) zK231 (.int .i64 ((rd_T72 l1 (rd l2 a3)).f1))).trans hx336_1; replace hx336_2 := (cell_far (p := ⟨gb332, 1, none⟩) zK231 (.int .i64 ((rd_T72 l1 (rd l2 a3)).f1))).trans hx336_2; replace hx336_0 := (cell_far (p := ⟨gb332, 2, none⟩) zK232 (.int .i64 ((rd_T72 l1 (rd l2 a3)).f2))).trans hx336_0; replace hx336_1 := (cell_far (p := ⟨gb332, 2, none⟩) zK232 (.int .i64 ((rd_T72 l1 (rd l2 a3)).f2))).trans hx336_1; replace hx336_2 := (cell_far (p := ⟨gb332, 2, none⟩) zK232 (.int .i64 ((rd_T72 l1 (rd l2 a3)).f2))).trans hx336_2; replace hx336_0 := (cell_far (p := ⟨gb332, 3, none⟩) zK233 (.int .i64 ((rd_T72 l1 (rd l2 a3)).f3))).trans hx336_0; replace hx336_1 := (cell_far (p := ⟨gb332, 3, none⟩) zK233 (.int .i64 ((rd_T72 l1 (rd l2 a3)).f3))).trans hx336_1; replace hx336_2 := (cell_far (p := ⟨gb332, 3, none⟩) zK233 (.int .i64 ((rd_T72 l1 (rd l2 a3)).f3))).trans hx336_2; replace hx336_0 := (cell_far (p := ⟨gb332, 4, none⟩) zK234 (.slice A331_4 ((rd_T72 l1 (rd l2 a3)).f4).length c331_4)).trans hx336_0; replace hx336_1 := (cell_far (p := ⟨gb332, 4, none⟩) zK234 (.slice A331_4 ((rd_T72 l1 (rd l2 a3)).f4).length c331_4)).trans hx336_1; replace hx336_2 := (cell_far (p := ⟨gb332, 4, none⟩) zK234 (.slice A331_4 ((rd_T72 l1 (rd l2 a3)).f4).length c331_4)).trans hx336_2; (try have hy336_0 := fun (n_ : Nat) => (show (((((((w12.drewN n_).setCell ⟨gb332, 0, none⟩ (.string ((rd_T72 l1 (rd l2 a3)).f0))).setCell ⟨gb332, 1, none⟩ (.int .i64 ((rd_T72 l1 (rd l2 a3)).f1))).setCell ⟨gb332, 2, none⟩ (.int .i64 ((rd_T72 l1 (rd l2 a3)).f2))).setCell ⟨gb332, 3, none⟩ (.int .i64 ((rd_T72 l1 (rd l2 a3)).f3))).setCell ⟨gb332, 4, none⟩ (.slice A331_4 ((rd_T72 l1 (rd l2 a3)).f4).length c331_4))).cell? _ = some _ from hx336_0)); (try have hy336_1 := fun (n_ : Nat) => (show (((((((w12.drewN n_).setCell ⟨gb332, 0, none⟩ (.string ((rd_T72 l1 (rd l2 a3)).f0))).setCell ⟨gb332, 1, none⟩ (.int .i64 ((rd_T72 l1 (rd l2 a3)).f1))).setCell ⟨gb332, 2, none⟩ (.int .i64 ((rd_T72 l1 (rd l2 a3)).f2))).setCell ⟨gb332, 3, none⟩ (.int .i64 ((rd_T72 l1 (rd l2 a3)).f3))).setCell ⟨gb332, 4, none⟩ (.slice A331_4 ((rd_T72 l1 (rd l2 a3)).f4).length c331_4))).cell? _ = some _ from hx336_1)); (try have hy336_2 := fun (n_ : Nat) => (show (((((((w12.drewN n_).setCell ⟨gb332, 0, none⟩ (.string ((rd_T72 l1 (rd l2 a3)).f0))).setCell ⟨gb332, 1, none⟩ (.int .i64 ((rd_T72 l1 (rd l2 a3)).f1))).setCell ⟨gb332, 2, none⟩ (.int .i64 ((rd_T72 l1 (rd l2 a3)).f2))).setCell ⟨gb332, 3, none⟩ (.int .i64 ((rd_T72 l1 (rd l2 a3)).f3))).setCell ⟨gb332, 4, none⟩ (.slice A331_4 ((rd_T72 l1 (rd l2 a3)).f4).length c331_4))).cell? _ = some _ from hx336_2)); clear hn336_0 hn336_1; clear hn336_2 hn336_3 hn336_4; replace p336 := eq_true p336; replace q336 := eq_true q336))
 repeat (go_quiet (first | ((with_reducible refine gate_dst (N := 9) rfl ?_); refine box_event ?hg (N := 9) ?hd (cs := #[.string (⟨#[]⟩ : ByteArray), .int .i64 0, .int .i64 0, .int .i64 0, .slice none 0 0]) (t := 72) ?hr ?_; (case hd => rfl); (case hg => rfl); (case hr => exact zH125); intro gb332 hg w12 hbox hb; have n_ := zA_ (za (zr zG102 hb)) (zA_ (za (hbox)) (zA_ (zN1 w.heap.size hg (zo zG102)) (zN1 w.heap.size hg (zo zG102)))); clear HB; obtain ⟨HB, BK332, GW332, GE332⟩ := n_; clear hb hbox hg; obtain ⟨hcz13_0, hcz13_1, hcz13_2, hcz13_3, hcz13_4, hfz13_0, hfz13_1, hfz13_2, hfz13_3, hfz13_4⟩ := zB5 BK332.out; have p333 : 0 ≤ (a3 : Int) := zO; have q333 : a3 < (l0.length : Int) := zO; obtain ⟨ad333, e333, hx333_0, hx333_1, hx333_2⟩ := at_T139 HR0.out a3 p333 q333; cases e333; have hn333_0 : ad333.block ≠ gb332 := Nat.ne_of_lt (Nat.lt_of_lt_of_le zG128 GW332.out); have hn333_1 : ad333.block ≠ gb332 := Nat.ne_of_lt (Nat.lt_of_lt_of_le zG128 GW332.out); have hn333_2 : ad333.block ≠ gb332 := Nat.ne_of_lt (Nat.lt_of_lt_of_le zG128 GW332.out); have hn333_3 : ad333.block ≠ gb332 := Nat.ne_of_lt (Nat.lt_of_lt_of_le zG128 GW332.out); have hn333_4 : ad333.block ≠ gb332 := Nat.ne_of_lt (Nat.lt_of_lt_of_le zG128 GW332.out); replace hx333_0 := (HB.out.cell (zb w _ hx333_0)).trans hx333_0; replace hx333_1 := (HB.out.cell (zb w _ hx333_1)).trans hx333_1; replace hx333_2 := (HB.out.cell (zb w _ hx333_2)).trans hx333_2; replace hx333_0 := (cell_far (p := ⟨gb332, 0, none⟩) zG97 (.string ((rd_T72 l1 (rd l2 a3)).f0))).trans hx333_0; replace hx333_1 := (cell_far (p := ⟨gb332, 0, none⟩) zG97 (.string ((rd_T72 l1 (rd l2 a3)).f0))).trans hx333_1; replace hx333_2 := (cell_far (p := ⟨gb332, 0, none⟩) zG97 (.string ((rd_T72 l1 (rd l2 a3)).f0))).trans hx333_2; replace hx333_0 := (cell_far (p := ⟨gb332, 1, none⟩) zG98 (.int .i64 ((rd_T72 l1 (rd l2 a3)).f1))).trans hx333_0; replace hx333_1 := (cell_far (p := ⟨gb332, 1, none⟩) zG98 (.int .i64 ((rd_T72 l1 (rd l2 a3)).f1))).trans hx333_1; replace hx333_2 := (cell_far (p := ⟨gb332, 1, none⟩) zG98 (.int .i64 ((rd_T72 l1 (rd l2 a3)).f1))).trans hx333_2; replace hx333_0 := (cell_far (p := ⟨gb332, 2, none⟩) zG99 (.int .i64 ((rd_T72 l1 (rd l2 a3)).f2))).trans hx333_0; replace hx333_1 := (cell_far (p := ⟨gb332, 2, none⟩) zG99 (.int .i64 ((rd_T72 l1 (rd l2 a3)).f2))).trans hx333_1; replace hx333_2 := (cell_far (p := ⟨gb332, 2, none⟩) zG99 (.int .i64 ((rd_T72 l1 (rd l2 a3)).f2))).trans hx333_2; replace hx333_0 := (cell_far (p := ⟨gb332, 3, none⟩) zG100 (.int .i64 ((rd_T72 l1 (rd l2 a3)).f3))).trans hx333_0; replace hx333_1 := (cell_far (p := ⟨gb332, 3, none⟩) zG100 (.int .i64 ((rd_T72 l1 (rd l2 a3)).f3))).trans hx333_1; replace hx333_2 := (cell_far (p := ⟨gb332, 3, none⟩) zG100 (.int .i64 ((rd_T72 l1 (rd l2 a3)).f3))).trans hx333_2; replace hx333_0 := (cell_far (p := ⟨gb332, 4, none⟩) zG101 (.slice A331_4 ((rd_T72 l1 (rd l2 a3)).f4).length c331_4)).trans hx333_0; replace hx333_1 := (cell_far (p := ⟨gb332, 4, none⟩) zG101 (.slice A331_4 ((rd_T72 l1 (rd l2 a3)).f4).length c331_4)).trans hx333_1; replace hx333_2 := (cell_far (p := ⟨gb332, 4, none⟩) zG101 (.slice A331_4 ((rd_T72 l1 (rd l2 a3)).f4).length c331_4)).trans hx333_2; (try have hy333_0 := fun (n_ : Nat) => (show (((((((w12.drewN n_).setCell ⟨gb332, 0, none⟩ (.string ((rd_T72 l1 (rd l2 a3)).f0))).setCell ⟨gb332, 1, none⟩ (.int .i64 ((rd_T72 l1 (rd l2 a3)).f1))).setCell ⟨gb332, 2, none⟩ (.int .i64 ((rd_T72 l1 (rd l2 a3)).f2))).setCell ⟨gb332, 3, none⟩ (.int .i64 ((rd_T72 l1 (rd l2 a3)).f3))).setCell ⟨gb332, 4, none⟩ (.slice A331_4 ((rd_T72 l1 (rd l2 a3)).f4).length c331_4))).cell? _ = some _ from hx333_0)); (try have hy333_1 := fun (n_ : Nat) => (show (((((((w12.drewN n_).setCell ⟨gb332, 0, none⟩ (.string ((rd_T72 l1 (rd l2 a3)).f0))).setCell ⟨gb332, 1, none⟩ (.int .i64 ((rd_T72 l1 (rd l2 a3)).f1))).setCell ⟨gb332, 2, none⟩ (.int .i64 ((rd_T72 l1 (rd l2 a3)).f2))).setCell ⟨gb332, 3, none⟩ (.int .i64 ((rd_T72 l1 (rd l2 a3)).f3))).setCell ⟨gb332, 4, none⟩ (.slice A331_4 ((rd_T72 l1 (rd l2 a3)).f4).length c331_4))).cell? _ = some _ from hx333_1)); (try have hy333_2 := fun (n_ : Nat) => (show (((((((w12.drewN n_).setCell ⟨gb332, 0, none⟩ (.string ((rd_T72 l1 (rd l2 a3)).f0))).setCell ⟨gb332, 1, none⟩ (.int .i64 ((rd_T72 l1 (rd l2 a3)).f1))).setCell ⟨gb332, 2, none⟩ (.int .i64 ((rd_T72 l1 (rd l2 a3)).f2))).setCell ⟨gb332, 3, none⟩ (.int .i64 ((rd_T72 l1 (rd l2 a3)).f3))).setCell ⟨gb332, 4, none⟩ (.slice A331_4 ((rd_T72 l1 (rd l2 a3)).f4).length c331_4))).cell? _ = some _ from hx333_2)); clear hn333_0 hn333_1; clear hn333_2 hn333_3 hn333_4; replace p333 := eq_true p333; replace q333 := eq_true q333) | (go_at_call 152; (with_reducible refine (spec_l00Has.calls k _ _ ((rd_T72 l1 (rd l2 a3)).f4) ((rd_T139 l0 a3).f2) true _ ?side1 ?side2 A10.out).mono ?_); (case side1 => exact zH57); (case side2 => exact HC331_4.out); rintro e w' ⟨rfl, ⟨nd, rfl⟩⟩; (try first | exact ⟨rfl, _, World.drewN_drewN _ _ _⟩ | exact ⟨rfl, _, Eq.trans (World.drewN_drewN _ _ _) (congrArg (World.drewN _) (Nat.add_assoc _ _ _))⟩); have p335 : 0 ≤ (a3 : Int) := zO; have q335 : a3 < (l0.length : Int) := zO; obtain ⟨ad335, e335, hx335_0, hx335_1, hx335_2⟩ := at_T139 HR0.out a3 p335 q335; obtain rfl : ad333 = ad335 := (by injection e335); have hn335_0 : ad333.block ≠ gb332 := Nat.ne_of_lt (Nat.lt_of_lt_of_le zK262 GW332.out); have hn335_1 : ad333.block ≠ gb332 := Nat.ne_of_lt (Nat.lt_of_lt_of_le zK262 GW332.out); have hn335_2 : ad333.block ≠ gb332 := Nat.ne_of_lt (Nat.lt_of_lt_of_le zK262 GW332.out); have hn335_3 : ad333.block ≠ gb332 := Nat.ne_of_lt (Nat.lt_of_lt_of_le zK262 GW332.out); have hn335_4 : ad333.block ≠ gb332 := Nat.ne_of_lt (Nat.lt_of_lt_of_le zK262 GW332.out); replace hx335_0 := (HB.out.cell (zb w _ hx335_0)).trans hx335_0; replace hx335_1 := (HB.out.cell (zb w _ hx335_1)).trans hx335_1; replace hx335_2 := (HB.out.cell (zb w _ hx335_2)).trans hx335_2; replace hx335_0 := (cell_far (p := ⟨gb332, 0, none⟩) zK225 (.string ((rd_T72 l1 (rd l2 a3)).f0))).trans hx335_0; replace hx335_1 := (cell_far (p := ⟨gb332, 0, none⟩) zK225 (.string ((rd_T72 l1 (rd l2 a3)).f0))).trans hx335_1; replace hx335_2 := (cell_far (p := ⟨gb332, 0, none⟩) zK225 (.string ((rd_T72 l1 (rd l2 a3)).f0))).trans hx335_2; replace hx335_0 := (cell_far (p := ⟨gb332, 1, none⟩) zK226 (.int .i64 ((rd_T72 l1 (rd l2 a3)).f1))).trans hx335_0; replace hx335_1 := (cell_far (p := ⟨gb332, 1, none⟩) zK226 (.int .i64 ((rd_T72 l1 (rd l2 a3)).f1))).trans hx335_1; replace hx335_2 := (cell_far (p := ⟨gb332, 1, none⟩) zK226 (.int .i64 ((rd_T72 l1 (rd l2 a3)).f1))).trans hx335_2; replace hx335_0 := (cell_far (p := ⟨gb332, 2, none⟩) zK227 (.int .i64 ((rd_T72 l1 (rd l2 a3)).f2))).trans hx335_0; replace hx335_1 := (cell_far (p := ⟨gb332, 2, none⟩) zK227 (.int .i64 ((rd_T72 l1 (rd l2 a3)).f2))).trans hx335_1; replace hx335_2 := (cell_far (p := ⟨gb332, 2, none⟩) zK227 (.int .i64 ((rd_T72 l1 (rd l2 a3)).f2))).trans hx335_2; replace hx335_0 := (cell_far (p := ⟨gb332, 3, none⟩) zK228 (.int .i64 ((rd_T72 l1 (rd l2 a3)).f3))).trans hx335_0; replace hx335_1 := (cell_far (p := ⟨gb332, 3, none⟩) zK228 (.int .i64 ((rd_T72 l1 (rd l2 a3)).f3))).trans hx335_1; replace hx335_2 := (cell_far (p := ⟨gb332, 3, none⟩) zK228 (.int .i64 ((rd_T72 l1 (rd l2 a3)).f3))).trans hx335_2; replace hx335_0 := (cell_far (p := ⟨gb332, 4, none⟩) zK229 (.slice A331_4 ((rd_T72 l1 (rd l2 a3)).f4).length c331_4)).trans hx335_0; replace hx335_1 := (cell_far (p := ⟨gb332, 4, none⟩) zK229 (.slice A331_4 ((rd_T72 l1 (rd l2 a3)).f4).length c331_4)).trans hx335_1; replace hx335_2 := (cell_far (p := ⟨gb332, 4, none⟩) zK229 (.slice A331_4 ((rd_T72 l1 (rd l2 a3)).f4).length c331_4)).trans hx335_2; (try have hy335_0 := fun (n_ : Nat) => (show (((((((w12.drewN n_).setCell ⟨gb332, 0, none⟩ (.string ((rd_T72 l1 (rd l2 a3)).f0))).setCell ⟨gb332, 1, none⟩ (.int .i64 ((rd_T72 l1 (rd l2 a3)).f1))).setCell ⟨gb332, 2, none⟩ (.int .i64 ((rd_T72 l1 (rd l2 a3)).f2))).setCell ⟨gb332, 3, none⟩ (.int .i64 ((rd_T72 l1 (rd l2 a3)).f3))).setCell ⟨gb332, 4, none⟩ (.slice A331_4 ((rd_T72 l1 (rd l2 a3)).f4).length c331_4))).cell? _ = some _ from hx335_0)); (try have hy335_1 := fun (n_ : Nat) => (show (((((((w12.drewN n_).setCell ⟨gb332, 0, none⟩ (.string ((rd_T72 l1 (rd l2 a3)).f0))).setCell ⟨gb332, 1, none⟩ (.int .i64 ((rd_T72 l1 (rd l2 a3)).f1))).setCell ⟨gb332, 2, none⟩ (.int .i64 ((rd_T72 l1 (rd l2 a3)).f2))).setCell ⟨gb332, 3, none⟩ (.int .i64 ((rd_T72 l1 (rd l2 a3)).f3))).setCell ⟨gb332, 4, none⟩ (.slice A331_4 ((rd_T72 l1 (rd l2 a3)).f4).length c331_4))).cell? _ = some _ from hx335_1)); (try have hy335_2 := fun (n_ : Nat) => (show (((((((w12.drewN n_).setCell ⟨gb332, 0, none⟩ (.string ((rd_T72 l1 (rd l2 a3)).f0))).setCell ⟨gb332, 1, none⟩ (.int .i64 ((rd_T72 l1 (rd l2 a3)).f1))).setCell ⟨gb332, 2, none⟩ (.int .i64 ((rd_T72 l1 (rd l2 a3)).f2))).setCell ⟨gb332, 3, none⟩ (.int .i64 ((rd_T72 l1 (rd l2 a3)).f3))).setCell ⟨gb332, 4, none⟩ (.slice A331_4 ((rd_T72 l1 (rd l2 a3)).f4).length c331_4))).cell? _ = some _ from hx335_2)); clear hn335_0 hn335_1; clear hn335_2 hn335_3 hn335_4; replace p335 := eq_true p335; replace q335 := eq_true q335; have p336 : 0 ≤ (a3 : Int) := zO; have q336 : a3 < (l0.length : Int) := zO; obtain ⟨ad336, e336, hx336_0, hx336_1, hx336_2⟩ := at_T139 HR0.out a3 p336 q336; obtain rfl : ad333 = ad336 := (by injection e336); have hn336_0 : ad333.block ≠ gb332 := Nat.ne_of_lt (Nat.lt_of_lt_of_le zK263 GW332.out); have hn336_1 : ad333.block ≠ gb332 := Nat.ne_of_lt (Nat.lt_of_lt_of_le zK263 GW332.out); have hn336_2 : ad333.block ≠ gb332 := Nat.ne_of_lt (Nat.lt_of_lt_of_le zK263 GW332.out); have hn336_3 : ad333.block ≠ gb332 := Nat.ne_of_lt (Nat.lt_of_lt_of_le zK263 GW332.out); have hn336_4 : ad333.block ≠ gb332 := Nat.ne_of_lt (Nat.lt_of_lt_of_le zK263 GW332.out); replace hx336_0 := (HB.out.cell (zb w _ hx336_0)).trans hx336_0; replace hx336_1 := (HB.out.cell (zb w _ hx336_1)).trans hx336_1; replace hx336_2 := (HB.out.cell (zb w _ hx336_2)).trans hx336_2; replace hx336_0 := (cell_far (p := ⟨gb332, 0, none⟩) zK230 (.string ((rd_T72 l1 (rd l2 a3)).f0))).trans hx336_0; replace hx336_1 := (cell_far (p := ⟨gb332, 0, none⟩) zK230 (.string ((rd_T72 l1 (rd l2 a3)).f0))).trans hx336_1; replace hx336_2 := (cell_far (p := ⟨gb332, 0, none⟩) zK230 (.string ((rd_T72 l1 (rd l2 a3)).f0))).trans hx336_2; replace hx336_0 := (cell_far (p := ⟨gb332, 1, none⟩) zK231 (.int .i64 ((rd_T72 l1 (rd l2 a3)).f1))).trans hx336_0; replace hx336_1 := (cell_far (p := ⟨gb332, 1, none⟩) zK231 (.int .i64 ((rd_T72 l1 (rd l2 a3)).f1))).trans hx336_1; replace hx336_2 := (cell_far (p := ⟨gb332, 1, none⟩) zK231 (.int .i64 ((rd_T72 l1 (rd l2 a3)).f1))).trans hx336_2; replace hx336_0 := (cell_far (p := ⟨gb332, 2, none⟩) zK232 (.int .i64 ((rd_T72 l1 (rd l2 a3)).f2))).trans hx336_0; replace hx336_1 := (cell_far (p := ⟨gb332, 2, none⟩) zK232 (.int .i64 ((rd_T72 l1 (rd l2 a3)).f2))).trans hx336_1; replace hx336_2 := (cell_far (p := ⟨gb332, 2, none⟩) zK232 (.int .i64 ((rd_T72 l1 (rd l2 a3)).f2))).trans hx336_2; replace hx336_0 := (cell_far (p := ⟨gb332, 3, none⟩) zK233 (.int .i64 ((rd_T72 l1 (rd l2 a3)).f3))).trans hx336_0; replace hx336_1 := (cell_far (p := ⟨gb332, 3, none⟩) zK233 (.int .i64 ((rd_T72 l1 (rd l2 a3)).f3))).trans hx336_1; replace hx336_2 := (cell_far (p := ⟨gb332, 3, none⟩) zK233 (.int .i64 ((rd_T72 l1 (rd l2 a3)).f3))).trans hx336_2; replace hx336_0 := (cell_far (p := ⟨gb332, 4, none⟩) zK234 (.slice A331_4 ((rd_T72 l1 (rd l2 a3)).f4).length c331_4)).trans hx336_0; replace hx336_1 := (cell_far (p := ⟨gb332, 4, none⟩) zK234 (.slice A331_4 ((rd_T72 l1 (rd l2 a3)).f4).length c331_4)).trans hx336_1; replace hx336_2 := (cell_far (p := ⟨gb332, 4, none⟩) zK234 (.slice A331_4 ((rd_T72 l1 (rd l2 a3)).f4).length c331_4)).trans hx336_2; (try have hy336_0 := fun (n_ : Nat) => (show (((((((w12.drewN n_).setCell ⟨gb332, 0, none⟩ (.string ((rd_T72 l1 (rd l2 a3)).f0))).setCell ⟨gb332, 1, none⟩ (.int .i64 ((rd_T72 l1 (rd l2 a3)).f1))).setCell ⟨gb332, 2, none⟩ (.int .i64 ((rd_T72 l1 (rd l2 a3)).f2))).setCell ⟨gb332, 3, none⟩ (.int .i64 ((rd_T72 l1 (rd l2 a3)).f3))).setCell ⟨gb332, 4, none⟩ (.slice A331_4 ((rd_T72 l1 (rd l2 a3)).f4).length c331_4))).cell? _ = some _ from hx336_0)); (try have hy336_1 := fun (n_ : Nat) => (show (((((((w12.drewN n_).setCell ⟨gb332, 0, none⟩ (.string ((rd_T72 l1 (rd l2 a3)).f0))).setCell ⟨gb332, 1, none⟩ (.int .i64 ((rd_T72 l1 (rd l2 a3)).f1))).setCell ⟨gb332, 2, none⟩ (.int .i64 ((rd_T72 l1 (rd l2 a3)).f2))).setCell ⟨gb332, 3, none⟩ (.int .i64 ((rd_T72 l1 (rd l2 a3)).f3))).setCell ⟨gb332, 4, none⟩ (.slice A331_4 ((rd_T72 l1 (rd l2 a3)).f4).length c331_4))).cell? _ = some _ from hx336_1)); (try have hy336_2 := fun (n_ : Nat) => (show (((((((w12.drewN n_).setCell ⟨gb332, 0, none⟩ (.string ((rd_T72 l1 (rd l2 a3)).f0))).setCell ⟨gb332, 1, none⟩ (.int .i64 ((rd_T72 l1 (rd l2 a3)).f1))).setCell ⟨gb332, 2, none⟩ (.int .i64 ((rd_T72 l1 (rd l2 a3)).f2))).setCell ⟨gb332, 3, none⟩ (.int .i64 ((rd_T72 l1 (rd l2 a3)).f3))).setCell ⟨gb332, 4, none⟩ (.slice A331_4 ((rd_T72 l1 (rd l2 a3)).f4).length c331_4))).cell? _ = some _ from hx336_2)); clear hn336_0 hn336_1; clear hn336_2 hn336_3 hn336_4; replace p336 := eq_true p336; replace q336 := eq_true q336)); try go_wp2_with (first | ((with_reducible refine gate_dst (N := 9) rfl ?_); refine box_event ?hg (N := 9) ?hd (cs := #[.string (⟨#[]⟩ : ByteArray), .int .i64 0, .int .i64 0, .int .i64 0, .slice none 0 0]) (t := 72) ?hr ?_; (case hd => rfl); (case hg => rfl); (case hr => exact zH125); intro gb332 hg w12 hbox hb; have n_ := zA_ (za (zr zG102 hb)) (zA_ (za (hbox)) (zA_ (zN1 w.heap.size hg (zo zG102)) (zN1 w.heap.size hg (zo zG102)))); clear HB; obtain ⟨HB, BK332, GW332, GE332⟩ := n_; clear hb hbox hg; obtain ⟨hcz13_0, hcz13_1, hcz13_2, hcz13_3, hcz13_4, hfz13_0, hfz13_1, hfz13_2, hfz13_3, hfz13_4⟩ := zB5 BK332.out; have p333 : 0 ≤ (a3 : Int) := zO; have q333 : a3 < (l0.length : Int) := zO; obtain ⟨ad333, e333, hx333_0, hx333_1, hx333_2⟩ := at_T139 HR0.out a3 p333 q333; cases e333; have hn333_0 : ad333.block ≠ gb332 := Nat.ne_of_lt (Nat.lt_of_lt_of_le zG128 GW332.out); have hn333_1 : ad333.block ≠ gb332 := Nat.ne_of_lt (Nat.lt_of_lt_of_le zG128 GW332.out); have hn333_2 : ad333.block ≠ gb332 := Nat.ne_of_lt (Nat.lt_of_lt_of_le zG128 GW332.out); have hn333_3 : ad333.block ≠ gb332 := Nat.ne_of_lt (Nat.lt_of_lt_of_le zG128 GW332.out); have hn333_4 : ad333.block ≠ gb332 := Nat.ne_of_lt (Nat.lt_of_lt_of_le zG128 GW332.out); replace hx333_0 := (HB.out.cell (zb w _ hx333_0)).trans hx333_0; replace hx333_1 := (HB.out.cell (zb w _ hx333_1)).trans hx333_1; replace hx333_2 := (HB.out.cell (zb w _ hx333_2)).trans hx333_2; replace hx333_0 := (cell_far (p := ⟨gb332, 0, none⟩) zG97 (.string ((rd_T72 l1 (rd l2 a3)).f0))).trans hx333_0; replace hx333_1 := (cell_far (p := ⟨gb332, 0, none⟩) zG97 (.string ((rd_T72 l1 (rd l2 a3)).f0))).trans hx333_1; replace hx333_2 := (cell_far (p := ⟨gb332, 0, none⟩) zG97 (.string ((rd_T72 l1 (rd l2 a3)).f0))).trans hx333_2; replace hx333_0 := (cell_far (p := ⟨gb332, 1, none⟩) zG98 (.int .i64 ((rd_T72 l1 (rd l2 a3)).f1))).trans hx333_0; replace hx333_1 := (cell_far (p := ⟨gb332, 1, none⟩) zG98 (.int .i64 ((rd_T72 l1 (rd l2 a3)).f1))).trans hx333_1; replace hx333_2 := (cell_far (p := ⟨gb332, 1, none⟩) zG98 (.int .i64 ((rd_T72 l1 (rd l2 a3)).f1))).trans hx333_2; replace hx333_0 := (cell_far (p := ⟨gb332, 2, none⟩) zG99 (.int .i64 ((rd_T72 l1 (rd l2 a3)).f2))).trans hx333_0; replace hx333_1 := (cell_far (p := ⟨gb332, 2, none⟩) zG99 (.int .i64 ((rd_T72 l1 (rd l2 a3)).f2))).trans hx333_1; replace hx333_2 := (cell_far (p := ⟨gb332, 2, none⟩) zG99 (.int .i64 ((rd_T72 l1 (rd l2 a3)).f2))).trans hx333_2; replace hx333_0 := (cell_far (p := ⟨gb332, 3, none⟩) zG100 (.int .i64 ((rd_T72 l1 (rd l2 a3)).f3))).trans hx333_0; replace hx333_1 := (cell_far (p := ⟨gb332, 3, none⟩) zG100 (.int .i64 ((rd_T72 l1 (rd l2 a3)).f3))).trans hx333_1; replace hx333_2 := (cell_far (p := ⟨gb332, 3, none⟩) zG100 (.int .i64 ((rd_T72 l1 (rd l2 a3)).f3))).trans hx333_2; replace hx333_0 := (cell_far (p := ⟨gb332, 4, none⟩) zG101 (.slice A331_4 ((rd_T72 l1 (rd l2 a3)).f4).length c331_4)).trans hx333_0; replace hx333_1 := (cell_far (p := ⟨gb332, 4, none⟩) zG101 (.slice A331_4 ((rd_T72 l1 (rd l2 a3)).f4).length c331_4)).trans hx333_1; replace hx333_2 := (cell_far (p := ⟨gb332, 4, none⟩) zG101 (.slice A331_4 ((rd_T72 l1 (rd l2 a3)).f4).length c331_4)).trans hx333_2; (try have hy333_0 := fun (n_ : Nat) => (show (((((((w12.drewN n_).setCell ⟨gb332, 0, none⟩ (.string ((rd_T72 l1 (rd l2 a3)).f0))).setCell ⟨gb332, 1, none⟩ (.int .i64 ((rd_T72 l1 (rd l2 a3)).f1))).setCell ⟨gb332, 2, none⟩ (.int .i64 ((rd_T72 l1 (rd l2 a3)).f2))).setCell ⟨gb332, 3, none⟩ (.int .i64 ((rd_T72 l1 (rd l2 a3)).f3))).setCell ⟨gb332, 4, none⟩ (.slice A331_4 ((rd_T72 l1 (rd l2 a3)).f4).length c331_4))).cell? _ = some _ from hx333_0)); (try have hy333_1 := fun (n_ : Nat) => (show (((((((w12.drewN n_).setCell ⟨gb332, 0, none⟩ (.string ((rd_T72 l1 (rd l2 a3)).f0))).setCell ⟨gb332, 1, none⟩ (.int .i64 ((rd_T72 l1 (rd l2 a3)).f1))).setCell ⟨gb332, 2, none⟩ (.int .i64 ((rd_T72 l1 (rd l2 a3)).f2))).setCell ⟨gb332, 3, none⟩ (.int .i64 ((rd_T72 l1 (rd l2 a3)).f3))).setCell ⟨gb332, 4, none⟩ (.slice A331_4 ((rd_T72 l1 (rd l2 a3)).f4).length c331_4))).cell? _ = some _ from hx333_1)); (try have hy333_2 := fun (n_ : Nat) => (show (((((((w12.drewN n_).setCell ⟨gb332, 0, none⟩ (.string ((rd_T72 l1 (rd l2 a3)).f0))).setCell ⟨gb332, 1, none⟩ (.int .i64 ((rd_T72 l1 (rd l2 a3)).f1))).setCell ⟨gb332, 2, none⟩ (.int .i64 ((rd_T72 l1 (rd l2 a3)).f2))).setCell ⟨gb332, 3, none⟩ (.int .i64 ((rd_T72 l1 (rd l2 a3)).f3))).setCell ⟨gb332, 4, none⟩ (.slice A331_4 ((rd_T72 l1 (rd l2 a3)).f4).length c331_4))).cell? _ = some _ from hx333_2)); clear hn333_0 hn333_1; clear hn333_2 hn333_3 hn333_4; replace p333 := eq_true p333; replace q333 := eq_true q333) | (go_at_call 152; (with_reducible refine (spec_l00Has.calls k _ _ ((rd_T72 l1 (rd l2 a3)).f4) ((rd_T139 l0 a3).f2) true _ ?side1 ?side2 A10.out).mono ?_); (case side1 => exact zH57); (case side2 => exact HC331_4.out); rintro e w' ⟨rfl, ⟨nd, rfl⟩⟩; (try first | exact ⟨rfl, _, World.drewN_drewN _ _ _⟩ | exact ⟨rfl, _, Eq.trans (World.drewN_drewN _ _ _) (congrArg (World.drewN _) (Nat.add_assoc _ _ _))⟩); have p335 : 0 ≤ (a3 : Int) := zO; have q335 : a3 < (l0.length : Int) := zO; obtain ⟨ad335, e335, hx335_0, hx335_1, hx335_2⟩ := at_T139 HR0.out a3 p335 q335; obtain rfl : ad333 = ad335 := (by injection e335); have hn335_0 : ad333.block ≠ gb332 := Nat.ne_of_lt (Nat.lt_of_lt_of_le zK262 GW332.out); have hn335_1 : ad333.block ≠ gb332 := Nat.ne_of_lt (Nat.lt_of_lt_of_le zK262 GW332.out); have hn335_2 : ad333.block ≠ gb332 := Nat.ne_of_lt (Nat.lt_of_lt_of_le zK262 GW332.out); have hn335_3 : ad333.block ≠ gb332 := Nat.ne_of_lt (Nat.lt_of_lt_of_le zK262 GW332.out); have hn335_4 : ad333.block ≠ gb332 := Nat.ne_of_lt (Nat.lt_of_lt_of_le zK262 GW332.out); replace hx335_0 := (HB.out.cell (zb w _ hx335_0)).trans hx335_0; replace hx335_1 := (HB.out.cell (zb w _ hx335_1)).trans hx335_1; replace hx335_2 := (HB.out.cell (zb w _ hx335_2)).trans hx335_2; replace hx335_0 := (cell_far (p := ⟨gb332, 0, none⟩) zK225 (.string ((rd_T72 l1 (rd l2 a3)).f0))).trans hx335_0; replace hx335_1 := (cell_far (p := ⟨gb332, 0, none⟩) zK225 (.string ((rd_T72 l1 (rd l2 a3)).f0))).trans hx335_1; replace hx335_2 := (cell_far (p := ⟨gb332, 0, none⟩) zK225 (.string ((rd_T72 l1 (rd l2 a3)).f0))).trans hx335_2; replace hx335_0 := (cell_far (p := ⟨gb332, 1, none⟩) zK226 (.int .i64 ((rd_T72 l1 (rd l2 a3)).f1))).trans hx335_0; replace hx335_1 := (cell_far (p := ⟨gb332, 1, none⟩) zK226 (.int .i64 ((rd_T72 l1 (rd l2 a3)).f1))).trans hx335_1; replace hx335_2 := (cell_far (p := ⟨gb332, 1, none⟩) zK226 (.int .i64 ((rd_T72 l1 (rd l2 a3)).f1))).trans hx335_2; replace hx335_0 := (cell_far (p := ⟨gb332, 2, none⟩) zK227 (.int .i64 ((rd_T72 l1 (rd l2 a3)).f2))).trans hx335_0; replace hx335_1 := (cell_far (p := ⟨gb332, 2, none⟩) zK227 (.int .i64 ((rd_T72 l1 (rd l2 a3)).f2))).trans hx335_1; replace hx335_2 := (cell_far (p := ⟨gb332, 2, none⟩) zK227 (.int .i64 ((rd_T72 l1 (rd l2 a3)).f2))).trans hx335_2; replace hx335_0 := (cell_far (p := ⟨gb332, 3, none⟩) zK228 (.int .i64 ((rd_T72 l1 (rd l2 a3)).f3))).trans hx335_0; replace hx335_1 := (cell_far (p := ⟨gb332, 3, none⟩) zK228 (.int .i64 ((rd_T72 l1 (rd l2 a3)).f3))).trans hx335_1; replace hx335_2 := (cell_far (p := ⟨gb332, 3, none⟩) zK228 (.int .i64 ((rd_T72 l1 (rd l2 a3)).f3))).trans hx335_2; replace hx335_0 := (cell_far (p := ⟨gb332, 4, none⟩) zK229 (.slice A331_4 ((rd_T72 l1 (rd l2 a3)).f4).length c331_4)).trans hx335_0; replace hx335_1 := (cell_far (p := ⟨gb332, 4, none⟩) zK229 (.slice A331_4 ((rd_T72 l1 (rd l2 a3)).f4).length c331_4)).trans hx335_1; replace hx335_2 := (cell_far (p := ⟨gb332, 4, none⟩) zK229 (.slice A331_4 ((rd_T72 l1 (rd l2 a3)).f4).length c331_4)).trans hx335_2; (try have hy335_0 := fun (n_ : Nat) => (show (((((((w12.drewN n_).setCell ⟨gb332, 0, none⟩ (.string ((rd_T72 l1 (rd l2 a3)).f0))).setCell ⟨gb332, 1, none⟩ (.int .i64 ((rd_T72 l1 (rd l2 a3)).f1))).setCell ⟨gb332, 2, none⟩ (.int .i64 ((rd_T72 l1 (rd l2 a3)).f2))).setCell ⟨gb332, 3, none⟩ (.int .i64 ((rd_T72 l1 (rd l2 a3)).f3))).setCell ⟨gb332, 4, none⟩ (.slice A331_4 ((rd_T72 l1 (rd l2 a3)).f4).length c331_4))).cell? _ = some _ from hx335_0)); (try have hy335_1 := fun (n_ : Nat) => (show (((((((w12.drewN n_).setCell ⟨gb332, 0, none⟩ (.string ((rd_T72 l1 (rd l2 a3)).f0))).setCell ⟨gb332, 1, none⟩ (.int .i64 ((rd_T72 l1 (rd l2 a3)).f1))).setCell ⟨gb332, 2, none⟩ (.int .i64 ((rd_T72 l1 (rd l2 a3)).f2))).setCell ⟨gb332, 3, none⟩ (.int .i64 ((rd_T72 l1 (rd l2 a3)).f3))).setCell ⟨gb332, 4, none⟩ (.slice A331_4 ((rd_T72 l1 (rd l2 a3)).f4).length c331_4))).cell? _ = some _ from hx335_1)); (try have hy335_2 := fun (n_ : Nat) => (show (((((((w12.drewN n_).setCell ⟨gb332, 0, none⟩ (.string ((rd_T72 l1 (rd l2 a3)).f0))).setCell ⟨gb332, 1, none⟩ (.int .i64 ((rd_T72 l1 (rd l2 a3)).f1))).setCell ⟨gb332, 2, none⟩ (.int .i64 ((rd_T72 l1 (rd l2 a3)).f2))).setCell ⟨gb332, 3, none⟩ (.int .i64 ((rd_T72 l1 (rd l2 a3)).f3))).setCell ⟨gb332, 4, none⟩ (.slice A331_4 ((rd_T72 l1 (rd l2 a3)).f4).length c331_4))).cell? _ = some _ from hx335_2)); clear hn335_0 hn335_1; clear hn335_2 hn335_3 hn335_4; replace p335 := eq_true p335; replace q335 := eq_true q335; have p336 : 0 ≤ (a3 : Int) := zO; have q336 : a3 < (l0.length : Int) := zO; obtain ⟨ad336, e336, hx336_0, hx336_1, hx336_2⟩ := at_T139 HR0.out a3 p336 q336; obtain rfl : ad333 = ad336 := (by injection e336); have hn336_0 : ad333.block ≠ gb332 := Nat.ne_of_lt (Nat.lt_of_lt_of_le zK263 GW332.out); have hn336_1 : ad333.block ≠ gb332 := Nat.ne_of_lt (Nat.lt_of_lt_of_le zK263 GW332.out); have hn336_2 : ad333.block ≠ gb332 := Nat.ne_of_lt (Nat.lt_of_lt_of_le zK263 GW332.out); have hn336_3 : ad333.block ≠ gb332 := Nat.ne_of_lt (Nat.lt_of_lt_of_le zK263 GW332.out); have hn336_4 : ad333.block ≠ gb332 := Nat.ne_of_lt (Nat.lt_of_lt_of_le zK263 GW332.out); replace hx336_0 := (HB.out.cell (zb w _ hx336_0)).trans hx336_0; replace hx336_1 := (HB.out.cell (zb w _ hx336_1)).trans hx336_1; replace hx336_2 := (HB.out.cell (zb w _ hx336_2)).trans hx336_2; replace hx336_0 := (cell_far (p := ⟨gb332, 0, none⟩) zK230 (.string ((rd_T72 l1 (rd l2 a3)).f0))).trans hx336_0; replace hx336_1 := (cell_far (p := ⟨gb332, 0, none⟩) zK230 (.string ((rd_T72 l1 (rd l2 a3)).f0))).trans hx336_1; replace hx336_2 := (cell_far (p := ⟨gb332, 0, none⟩) zK230 (.string ((rd_T72 l1 (rd l2 a3)).f0))).trans hx336_2; replace hx336_0 := (cell_far (p := ⟨gb332, 1, none⟩) zK231 (.int .i64 ((rd_T72 l1 (rd l2 a3)).f1))).trans hx336_0; replace hx336_1 := (cell_far (p := ⟨gb332, 1, none⟩) zK231 (.int .i64 ((rd_T72 l1 (rd l2 a3)).f1))).trans hx336_1; replace hx336_2 := (cell_far (p := ⟨gb332, 1, none⟩) zK231 (.int .i64 ((rd_T72 l1 (rd l2 a3)).f1))).trans hx336_2; replace hx336_0 := (cell_far (p := ⟨gb332, 2, none⟩) zK232 (.int .i64 ((rd_T72 l1 (rd l2 a3)).f2))).trans hx336_0; replace hx336_1 := (cell_far (p := ⟨gb332, 2, none⟩) zK232 (.int .i64 ((rd_T72 l1 (rd l2 a3)).f2))).trans hx336_1; replace hx336_2 := (cell_far (p := ⟨gb332, 2, none⟩) zK232 (.int .i64 ((rd_T72 l1 (rd l2 a3)).f2))).trans hx336_2; replace hx336_0 := (cell_far (p := ⟨gb332, 3, none⟩) zK233 (.int .i64 ((rd_T72 l1 (rd l2 a3)).f3))).trans hx336_0; replace hx336_1 := (cell_far (p := ⟨gb332, 3, none⟩) zK233 (.int .i64 ((rd_T72 l1 (rd l2 a3)).f3))).trans hx336_1; replace hx336_2 := (cell_far (p := ⟨gb332, 3, none⟩) zK233 (.int .i64 ((rd_T72 l1 (rd l2 a3)).f3))).trans hx336_2; replace hx336_0 := (cell_far (p := ⟨gb332, 4, none⟩) zK234 (.slice A331_4 ((rd_T72 l1 (rd l2 a3)).f4).length c331_4)).trans hx336_0; replace hx336_1 := (cell_far (p := ⟨gb332, 4, none⟩) zK234 (.slice A331_4 ((rd_T72 l1 (rd l2 a3)).f4).length c331_4)).trans hx336_1; replace hx336_2 := (cell_far (p := ⟨gb332, 4, none⟩) zK234 (.slice A331_4 ((rd_T72 l1 (rd l2 a3)).f4).length c331_4)).trans hx336_2; (try have hy336_0 := fun (n_ : Nat) => (show (((((((w12.drewN n_).setCell ⟨gb332, 0, none⟩ (.string ((rd_T72 l1 (rd l2 a3)).f0))).setCell ⟨gb332, 1, none⟩ (.int .i64 ((rd_T72 l1 (rd l2 a3)).f1))).setCell ⟨gb332, 2, none⟩ (.int .i64 ((rd_T72 l1 (rd l2 a3)).f2))).setCell ⟨gb332, 3, none⟩ (.int .i64 ((rd_T72 l1 (rd l2 a3)).f3))).setCell ⟨gb332, 4, none⟩ (.slice A331_4 ((rd_T72 l1 (rd l2 a3)).f4).length c331_4))).cell? _ = some _ from hx336_0)); (try have hy336_1 := fun (n_ : Nat) => (show (((((((w12.drewN n_).setCell ⟨gb332, 0, none⟩ (.string ((rd_T72 l1 (rd l2 a3)).f0))).setCell ⟨gb332, 1, none⟩ (.int .i64 ((rd_T72 l1 (rd l2 a3)).f1))).setCell ⟨gb332, 2, none⟩ (.int .i64 ((rd_T72 l1 (rd l2 a3)).f2))).setCell ⟨gb332, 3, none⟩ (.int .i64 ((rd_T72 l1 (rd l2 a3)).f3))).setCell ⟨gb332, 4, none⟩ (.slice A331_4 ((rd_T72 l1 (rd l2 a3)).f4).length c331_4))).cell? _ = some _ from hx336_1)); (try have hy336_2 := fun (n_ : Nat) => (show (((((((w12.drewN n_).setCell ⟨gb332, 0, none⟩ (.string ((rd_T72 l1 (rd l2 a3)).f0))).setCell ⟨gb332, 1, none⟩ (.int .i64 ((rd_T72 l1 (rd l2 a3)).f1))).setCell ⟨gb332, 2, none⟩ (.int .i64 ((rd_T72 l1 (rd l2 a3)).f2))).setCell ⟨gb332, 3, none⟩ (.int .i64 ((rd_T72 l1 (rd l2 a3)).f3))).setCell ⟨gb332, 4, none⟩ (.slice A331_4 ((rd_T72 l1 (rd l2 a3)).f4).length c331_4))).cell? _ = some _ from hx336_2)); clear hn336_0 hn336_1; clear hn336_2 hn336_3 hn336_4; replace p336 := eq_true p336; replace q336 := eq_true q336)))
 go_loopg [10, 11, 12] k (fun kq v10 v11 v12 w' => ∃ (x10_1 : Int) (x11_1 : Bool) (x12_1 : Int), v10 = .int .i64 x10_1 ∧ v11 = .bool x11_1 ∧ v12 = .int .i64 x12_1 ∧ Aside0 (spec_l21Code.l0 kq l0 l2 a3 x10_1 x11_1 x12_1 ((rd_T72 l1 (rd l2 a3)).f0) ((rd_T72 l1 (rd l2 a3)).f1) ((rd_T72 l1 (rd l2 a3)).f2) ((rd_T72 l1 (rd l2 a3)).f3) ((rd_T72 l1 (rd l2 a3)).f4) = some r) ∧ Aside0 (kq ≤ k) ∧ Aside0 (w'.heap[gb332]? = some (.cells #[.string ((rd_T72 l1 (rd l2 a3)).f0), .int .i64 ((rd_T72 l1 (rd l2 a3)).f1), .int .i64 ((rd_T72 l1 (rd l2 a3)).f2), .int .i64 ((rd_T72 l1 (rd l2 a3)).f3), (.slice A331_4 ((rd_T72 l1 (rd l2 a3)).f4).length c331_4)] 72 (0, 0))) ∧ Aside0 (Below w.heap.size w w'))
 case atStart => exact ⟨(wrap64 (((rd_T139 l0 a3).f1) - ((rd_T139 l0 a3).f0))), (false), (0), zG129, zG129, zG129, H', ⟨Nat.le_refl _⟩, ⟨by (with_reducible repeat (first | refine zd ?_ _ | refine zg ?_ | refine ze ?_ _)); refine zu (cs := #[.string ((rd_T72 l1 (rd l2 a3)).f0), .int .i64 ((rd_T72 l1 (rd l2 a3)).f1), .int .i64 ((rd_T72 l1 (rd l2 a3)).f2), .int .i64 ((rd_T72 l1 (rd l2 a3)).f3), .slice none 0 0]) ?_ 4 _ rfl; (with_reducible repeat (first | refine zd ?_ _ | refine zg ?_ | refine ze ?_ _)); refine zu (cs := #[.string ((rd_T72 l1 (rd l2 a3)).f0), .int .i64 ((rd_T72 l1 (rd l2 a3)).f1), .int .i64 ((rd_T72 l1 (rd l2 a3)).f2), .int .i64 0, .slice none 0 0]) ?_ 3 _ rfl; (with_reducible repeat (first | refine zd ?_ _ | refine zg ?_ | refine ze ?_ _)); refine zu (cs := #[.string ((rd_T72 l1 (rd l2 a3)).f0), .int .i64 ((rd_T72 l1 (rd l2 a3)).f1), .int .i64 0, .int .i64 0, .slice none 0 0]) ?_ 2 _ rfl; (with_reducible repeat (first | refine zd ?_ _ | refine zg ?_ | refine ze ?_ _)); refine zu (cs := #[.string ((rd_T72 l1 (rd l2 a3)).f0), .int .i64 0, .int .i64 0, .int .i64 0, .slice none 0 0]) ?_ 1 _ rfl; (with_reducible repeat (first | refine zd ?_ _ | refine zg ?_ | refine ze ?_ _)); refine zu (cs := #[.string (⟨#[]⟩ : ByteArray), .int .i64 0, .int .i64 0, .int .i64 0, .slice none 0 0]) ?_ 0 _ rfl; (with_reducible repeat (first | refine zd ?_ _ | refine zg ?_ | refine ze ?_ _)); exact BK332.out⟩, ⟨zH84⟩⟩
 case round =>
  clear H'
  try clear c1
  try clear c2
  try clear c5
  try clear c5b0
  try clear c6
  try clear c6b0
  try clear c7
  try clear c7b0
  try clear c8
  try clear c8b0
  try clear c9
  try clear c9b0
  try clear c11
  try clear hcz13_0
  try clear hcz13_1
  try clear hcz13_2
  try clear hcz13_3
  try clear hcz13_4
  try clear hfz13_0
  try clear hfz13_1
  try clear hfz13_2
  try clear hfz13_3
  try clear hfz13_4
  try clear hx330_0
  try clear hx331_0
  try clear hx331_1
  try clear hx331_2
  try clear hx331_3
  try clear hx331_4
  try clear hx333_0
  try clear hx333_1
  try clear hx333_2
  try clear hx335_0
  try clear hx335_1
  try clear hx335_2
  try clear hx336_0
  try clear hx336_1
  try clear hx336_2
  try clear p330
  try clear p331
  try clear p333
  try clear p335
  try clear p336
  try clear q330
  try clear q331
  try clear q333
  try clear q335
  try clear q336
  obtain ⟨x10_1, x11_1, x12_1, rfl, rfl, rfl, HA, HK1, BK332, HB⟩ := hrel
  cases gk with
  | zero => exact absurd HA.out (by simp [spec_l21Code.l0])
  | succ k1 =>
   have H := HA.out
   clear HA
   simp only [spec_l21Code.l0] at H
   by_cases c14 : x12_1 < a3
   rotate_left
   ·rw [if_neg c14] at H
    have c14b0 := decide_eq_false c14
    clear c14
    by_cases c24 : x11_1 = true
    ·subst c24
     have H1 : (some 12) = some r := by rw [if_pos rfl] at H; exact H
     clear H
     have H := H1
     clear H1
     obtain rfl := Option.some.inj H
     go_wp2
     repeat (go_quiet (fail); try go_wp2)
     go_ret
     exact zH30
    replace c24 := Bool.eq_false_iff.mpr c24
    subst c24
    have H1 : (if x10_1 > ((rd_T72 l1 (rd l2 a3)).f1) then (some 11) else (some 0)) = some r := by rw [if_neg (show ¬ (false = true) by decide)] at H; exact H
    clear H
    have H := H1
    clear H1
    by_cases c25 : x10_1 > ((rd_T72 l1 (rd l2 a3)).f1)
    rotate_left
    ·rw [if_neg c25] at H
     have c25b0 : decide (((rd_T72 l1 (rd l2 a3)).f1) < x10_1) = false := decide_eq_false c25
     clear c25
     obtain rfl := Option.some.inj H
     obtain ⟨hcz27_0, hcz27_1, hcz27_2, hcz27_3, hcz27_4, hfz27_0, hfz27_1, hfz27_2, hfz27_3, hfz27_4⟩ := zB5 BK332.out
     go_wp2
     repeat (go_quiet (fail); try go_wp2)
     go_ret
     exact zH30
    rw [if_pos c25] at H
    have c25b0 : decide (((rd_T72 l1 (rd l2 a3)).f1) < x10_1) = true := decide_eq_true c25
    clear c25
    obtain rfl := Option.some.inj H
    obtain ⟨hcz26_0, hcz26_1, hcz26_2, hcz26_3, hcz26_4, hfz26_0, hfz26_1, hfz26_2, hfz26_3, hfz26_4⟩ := zB5 BK332.out
    go_wp2
    repeat (go_quiet (fail); try go_wp2)
    go_ret
    exact zH30
   rw [if_pos c14] at H
   have c14b0 := decide_eq_true c14
   clear c14
   by_cases c15 : 0 ≤ x12_1
   rotate_left
   ·rw [if_neg c15] at H
    exact absurd H (by simp)
   rw [if_pos c15] at H
   have c15b0 := decide_eq_true c15
   clear c15
   by_cases c16 : x12_1 < (l2.length : Int)
   rotate_left
   ·rw [if_neg c16] at H
    exact absurd H (by simp)
   rw [if_pos c16] at H
   have c16b0 := decide_eq_true c16
   clear c16
   by_cases c17 : 0 ≤ a3
   rotate_left
   ·rw [if_neg c17] at H
    exact absurd H (by simp)
   rw [if_pos c17] at H
   have c17b0 := decide_eq_true c17
   clear c17
   by_cases c18 : a3 < (l2.length : Int)
   rotate_left
   ·rw [if_neg c18] at H
    exact absurd H (by simp)
   rw [if_pos c18] at H
   have c18b0 := decide_eq_true c18
   clear c18
   by_cases c19 : (rd l2 x12_1) = (rd l2 a3)
   rotate_left
   ·rw [if_neg c19] at H
    have c19b0 : ((rd l2 x12_1) == (rd l2 a3)) = false := beq_eq_false_iff_ne.mpr c19
    have c19b1 : ((rd l2 x12_1) != (rd l2 a3)) = true := bne_iff_ne.mpr c19
    have H' := za H
    clear H
    have p337 : 0 ≤ (x12_1 : Int) := zO
    have q337 : x12_1 < (l2.length : Int) := zO
    obtain ⟨ad337, e337, hx337_0⟩ := zbf HR2.out x12_1 p337 q337
    obtain rfl : ad330 = ad337 := (by injection e337)
    replace hx337_0 := (HB.out.cell (zb w _ hx337_0)).trans hx337_0
    replace p337 := eq_true p337
    replace q337 := eq_true q337
    have p338 : 0 ≤ (a3 : Int) := zO
    have q338 : a3 < (l2.length : Int) := zO
    obtain ⟨ad338, e338, hx338_0⟩ := zbf HR2.out a3 p338 q338
    obtain rfl : ad330 = ad338 := (by injection e338)
    replace hx338_0 := (HB.out.cell (zb w _ hx338_0)).trans hx338_0
    replace p338 := eq_true p338
    replace q338 := eq_true q338
    go_wp2
    repeat (go_quiet (fail); try go_wp2)
    go_roundg k1
    case measure => have := HK1.out; omega
    case rel => exact ⟨(x10_1), (x11_1), (wrap64 (x12_1 + 1)), zG129, zG129, zG129, H', ⟨zH128⟩, ⟨zH102⟩, ⟨zH84⟩⟩
   rw [if_pos c19] at H
   have c19b0 : ((rd l2 x12_1) == (rd l2 a3)) = true := beq_iff_eq.mpr c19
   have c19b1 : ((rd l2 x12_1) != (rd l2 a3)) = false := bne_eq_false_iff_eq.mpr c19
   clear c19
   by_cases c20 : x12_1 < (l0.length : Int)
   rotate_left
   ·rw [if_neg c20] at H
    exact absurd H (by simp)
   rw [if_pos c20] at H
   have c20b0 := decide_eq_true c20
   clear c20
   by_cases c21 : x11_1 = true
   ·subst c21
    have H1 : (spec_l21Code.l0 k1 l0 l2 a3 (wrap64 (x10_1 + (wrap64 (((rd_T139 l0 x12_1).f1) - ((rd_T139 l0 x12_1).f0))))) true (wrap64 (x12_1 + 1)) ((rd_T72 l1 (rd l2 a3)).f0) ((rd_T72 l1 (rd l2 a3)).f1) ((rd_T72 l1 (rd l2 a3)).f2) ((rd_T72 l1 (rd l2 a3)).f3) ((rd_T72 l1 (rd l2 a3)).f4)) = some r := by rw [if_pos rfl] at H; exact H
    clear H
    have H := H1
    clear H1
    have H' := za H
    clear H
    have p337 : 0 ≤ (x12_1 : Int) := zO
    have q337 : x12_1 < (l2.length : Int) := zO
    obtain ⟨ad337, e337, hx337_0⟩ := zbf HR2.out x12_1 p337 q337
    obtain rfl : ad330 = ad337 := (by injection e337)
    replace hx337_0 := (HB.out.cell (zb w _ hx337_0)).trans hx337_0
    replace p337 := eq_true p337
    replace q337 := eq_true q337
    have p338 : 0 ≤ (a3 : Int) := zO
    have q338 : a3 < (l2.length : Int) := zO
    obtain ⟨ad338, e338, hx338_0⟩ := zbf HR2.out a3 p338 q338
    obtain rfl : ad330 = ad338 := (by injection e338)
    replace hx338_0 := (HB.out.cell (zb w _ hx338_0)).trans hx338_0
    replace p338 := eq_true p338
    replace q338 := eq_true q338
    have p339 : 0 ≤ (x12_1 : Int) := zO
    have q339 : x12_1 < (l0.length : Int) := zO
    obtain ⟨ad339, e339, hx339_0, hx339_1, hx339_2⟩ := at_T139 HR0.out x12_1 p339 q339
    obtain rfl : ad333 = ad339 := (by injection e339)
    replace hx339_0 := (HB.out.cell (zb w _ hx339_0)).trans hx339_0
    replace hx339_1 := (HB.out.cell (zb w _ hx339_1)).trans hx339_1
    replace hx339_2 := (HB.out.cell (zb w _ hx339_2)).trans hx339_2
    replace p339 := eq_true p339
    replace q339 := eq_true q339
    have p340 : 0 ≤ (x12_1 : Int) := zO
    have q340 : x12_1 < (l0.length : Int) := zO
    obtain ⟨ad340, e340, hx340_0, hx340_1, hx340_2⟩ := at_T139 HR0.out x12_1 p340 q340
    obtain rfl : ad333 = ad340 := (by injection e340)
    replace hx340_0 := (HB.out.cell (zb w _ hx340_0)).trans hx340_0
    replace hx340_1 := (HB.out.cell (zb w _ hx340_1)).trans hx340_1
    replace hx340_2 := (HB.out.cell (zb w _ hx340_2)).trans hx340_2
    replace p340 := eq_true p340
    replace q340 := eq_true q340
    go_wp2
    repeat (go_quiet (fail); try go_wp2)
    go_roundg k1
    case measure => have := HK1.out; omega
    case rel => exact ⟨(wrap64 (x10_1 + (wrap64 (((rd_T139 l0 x12_1).f1) - ((rd_T139 l0 x12_1).f0))))), (true), (wrap64 (x12_1 + 1)), zG129, zG129, zG129, H', ⟨zH128⟩, ⟨zH102⟩, ⟨zH84⟩⟩
   replace c21 := Bool.eq_false_iff.mpr c21
   subst c21
   have H1 : (if a3 < (l0.length : Int) then (spec_l21Code.l0 k1 l0 l2 a3 (wrap64 (x10_1 + (wrap64 (((rd_T139 l0 x12_1).f1) - ((rd_T139 l0 x12_1).f0))))) (decide (((rd_T139 l0 a3).f0) < (wrap64 (((rd_T139 l0 x12_1).f1) + ((rd_T72 l1 (rd l2 a3)).f2))))) (wrap64 (x12_1 + 1)) ((rd_T72 l1 (rd l2 a3)).f0) ((rd_T72 l1 (rd l2 a3)).f1) ((rd_T72 l1 (rd l2 a3)).f2) ((rd_T72 l1 (rd l2 a3)).f3) ((rd_T72 l1 (rd l2 a3)).f4)) else (none)) = some r := by rw [if_neg (show ¬ (false = true) by decide)] at H; exact H
   clear H
   have H := H1
   clear H1
   by_cases c22 : a3 < (l0.length : Int)
   rotate_left
   ·rw [if_neg c22] at H
    exact absurd H (by simp)
   rw [if_pos c22] at H
   have c22b0 := decide_eq_true c22
   clear c22
   have H' := za H
   clear H
   have p337 : 0 ≤ (x12_1 : Int) := zO
   have q337 : x12_1 < (l2.length : Int) := zO
   obtain ⟨ad337, e337, hx337_0⟩ := zbf HR2.out x12_1 p337 q337
   obtain rfl : ad330 = ad337 := (by injection e337)
   replace hx337_0 := (HB.out.cell (zb w _ hx337_0)).trans hx337_0
   replace p337 := eq_true p337
   replace q337 := eq_true q337
   have p338 : 0 ≤ (a3 : Int) := zO
   have q338 : a3 < (l2.length : Int) := zO
   obtain ⟨ad338, e338, hx338_0⟩ := zbf HR2.out a3 p338 q338
   obtain rfl : ad330 = ad338 := (by injection e338)
   replace hx338_0 := (HB.out.cell (zb w _ hx338_0)).trans hx338_0
   replace p338 := eq_true p338
   replace q338 := eq_true q338
   have p339 : 0 ≤ (x12_1 : Int) := zO
   have q339 : x12_1 < (l0.length : Int) := zO
   obtain ⟨ad339, e339, hx339_0, hx339_1, hx339_2⟩ := at_T139 HR0.out x12_1 p339 q339
   obtain rfl : ad333 = ad339 := (by injection e339)
   replace hx339_0 := (HB.out.cell (zb w _ hx339_0)).trans hx339_0
   replace hx339_1 := (HB.out.cell (zb w _ hx339_1)).trans hx339_1
   replace hx339_2 := (HB.out.cell (zb w _ hx339_2)).trans hx339_2
   replace p339 := eq_true p339
   replace q339 := eq_true q339
   have p340 : 0 ≤ (x12_1 : Int) := zO
   have q340 : x12_1 < (l0.length : Int) := zO
   obtain ⟨ad340, e340, hx340_0, hx340_1, hx340_2⟩ := at_T139 HR0.out x12_1 p340 q340
   obtain rfl : ad333 = ad340 := (by injection e340)
   replace hx340_0 := (HB.out.cell (zb w _ hx340_0)).trans hx340_0
   replace hx340_1 := (HB.out.cell (zb w _ hx340_1)).trans hx340_1
   replace hx340_2 := (HB.out.cell (zb w _ hx340_2)).trans hx340_2
   replace p340 := eq_true p340
   replace q340 := eq_true q340
   have p341 : 0 ≤ (a3 : Int) := zO
   have q341 : a3 < (l0.length : Int) := zO
   obtain ⟨ad341, e341, hx341_0, hx341_1, hx341_2⟩ := at_T139 HR0.out a3 p341 q341
   obtain rfl : ad333 = ad341 := (by injection e341)
   replace hx341_0 := (HB.out.cell (zb w _ hx341_0)).trans hx341_0
   replace hx341_1 := (HB.out.cell (zb w _ hx341_1)).trans hx341_1
   replace hx341_2 := (HB.out.cell (zb w _ hx341_2)).trans hx341_2
   replace p341 := eq_true p341
   replace q341 := eq_true q341
   have p342 : 0 ≤ (x12_1 : Int) := zO
   have q342 : x12_1 < (l0.length : Int) := zO
   obtain ⟨ad342, e342, hx342_0, hx342_1, hx342_2⟩ := at_T139 HR0.out x12_1 p342 q342
   obtain rfl : ad333 = ad342 := (by injection e342)
   replace hx342_0 := (HB.out.cell (zb w _ hx342_0)).trans hx342_0
   replace hx342_1 := (HB.out.cell (zb w _ hx342_1)).trans hx342_1
   replace hx342_2 := (HB.out.cell (zb w _ hx342_2)).trans hx342_2
   replace p342 := eq_true p342
   replace q342 := eq_true q342
   obtain ⟨hcz23_0, hcz23_1, hcz23_2, hcz23_3, hcz23_4, hfz23_0, hfz23_1, hfz23_2, hfz23_3, hfz23_4⟩ := zB5 BK332.out
   go_wp2
   repeat (go_quiet (fail); try go_wp2)
   go_roundg k1
   case measure => have := HK1.out; omega
   case rel => exact ⟨(wrap64 (x10_1 + (wrap64 (((rd_T139 l0 x12_1).f1) - ((rd_T139 l0 x12_1).f0))))), (decide (((rd_T139 l0 a3).f0) < (wrap64 (((rd_T139 l0 x12_1).f1) + ((rd_T72 l1 (rd l2 a3)).f2))))), (wrap64 (x12_1 + 1)), zG129, zG129, zG129, H', ⟨zH128⟩, ⟨zH102⟩, ⟨zH84⟩⟩
end Go.Proofs.Ytojncbpeeboooaa.Y
