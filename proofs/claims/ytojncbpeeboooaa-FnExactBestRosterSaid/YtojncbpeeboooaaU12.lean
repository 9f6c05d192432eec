-- squeezed
-- made by pp.py (wip/tools) out of the translation; Lean checks it
import Derived.Test.YtojncbpeeboooaaU0
namespace Go.Proofs.Ytojncbpeeboooaa.U
open Go.RowKit Go.Proofs.YtojncbpeeboooaaW.PrintWords Go.Proofs.YtojncbpeeboooaaW.PrintLast Go.Proofs.YtojncbpeeboooaaW.PrintMore
attribute [local go_sem] max2_int min2_int max_two min_two max_three min_three max_four min_four   -- for this text's walks alone
set_option linter.unusedVariables false
set_option linter.unusedSimpArgs false


/-! ### spec_l21Cost: function 139 -/
def spec_l21Cost.l0 : Nat → List (S139) → List (S72) → List Int → Int → Int → Option (Int)
 | 0, _, _, _, _, _ => none
 | k + 1, x0, x1, x2, x7, x8 => if x8 < (x2.length : Int) then (if 0 ≤ x8 then (if x8 < (x0.length : Int) then (if 0 ≤ (rd x2 x8) then (if (rd x2 x8) < (x1.length : Int) then (spec_l21Cost.l0 k x0 x1 x2 (wrap64 (x7 + (wrap64 ((wrap64 (((rd_T139 x0 x8).f1) - ((rd_T139 x0 x8).f0))) * ((rd_T72 x1 (rd x2 x8)).f3))))) (wrap64 (x8 + 1))) else (none)) else (none)) else (none)) else (none)) else (some x7)
def spec_l21Cost.f (k : Nat) (l0 : List (S139)) (l1 : List (S72)) (l2 : List Int) : Option (Int) := spec_l21Cost.l0 k l0 l1 l2 0 0
theorem spec_l21Cost.mono_l : ∀ k, (∀ y0 y1 y2 y3 y4, LeO (spec_l21Cost.l0 k y0 y1 y2 y3 y4) (spec_l21Cost.l0 (k + 1) y0 y1 y2 y3 y4))
 | 0 => fun _ _ _ _ _ r h => by simp [spec_l21Cost.l0] at h
 | k + 1 => by
  have ih0 := spec_l21Cost.mono_l k
  ·intro y0 y1 y2 y3 y4
   unfold spec_l21Cost.l0
   repeat' first
   | (with_reducible exact ih0 _ _ _ _ _)
   | (with_reducible exact LeO.refl _)
   | (with_reducible exact LeO.none _)
   | (with_reducible refine LeO.ite ?_ ?_)
   | (with_reducible refine LeO.bind ?_ (fun _ => ?_))
   | exact ih0 _ _ _ _ _
   | exact LeO.none _
   | refine LeO.ite ?_ ?_
   | refine LeO.bind ?_ (fun _ => ?_)
theorem spec_l21Cost.mono : ∀ a0 a1 a2 k, LeO (spec_l21Cost.f k a0 a1 a2) (spec_l21Cost.f (k + 1) a0 a1 a2) := by
 intro a0 a1 a2 k
 have ih0 := spec_l21Cost.mono_l k
 unfold spec_l21Cost.f
 repeat' first
   | (with_reducible exact ih0 _ _ _ _ _)
   | (with_reducible exact LeO.refl _)
   | (with_reducible exact LeO.none _)
   | (with_reducible refine LeO.ite ?_ ?_)
   | (with_reducible refine LeO.bind ?_ (fun _ => ?_))
   | exact ih0 _ _ _ _ _
   | exact LeO.none _
   | refine LeO.ite ?_ ?_
   | refine LeO.bind ?_ (fun _ => ?_)
set_option maxHeartbeats 64000000 in
set_option maxRecDepth 100000 in
theorem spec_l21Cost.calls (k : Nat) (A0 : Option Addr) (c0 : Nat) (l0 : List (S139)) (A1 : Option Addr) (c1 : Nat) (l1 : List (S72)) (A2 : Option Addr) (c2 : Nat) (l2 : List Int) (r : Int) (w : World) (hr0 : Kd.C k139 w A0 l0.length l0) (hc0 : l0.length ≤ c0) (hr1 : Kd.C k72 w A1 l1.length l1) (hc1 : l1.length ≤ c1) (hr2 : Kd.C (Kd.int .i64) w A2 l2.length l2) (hc2 : l2.length ≤ c2) (h : spec_l21Cost.f k l0 l1 l2 = some r) :
  Calls Try.prog 139 #[.slice A0 l0.length c0, .slice A1 l1.length c1, .slice A2 l2.length c2] w fun e w' => e = .returned (.int .i64 r) ∧ Drawn0 w w' := by
 obtain ⟨HR0, HC0, HR1, HC1, HR2, HC2⟩ := zD6 hr0 hc0 hr1 hc1 hr2 hc2
 clear hr0 hc0 hr1 hc1 hr2 hc2
 have H : (spec_l21Cost.l0 k l0 l1 l2 0 0) = some r := h
 clear h
 have H' := zb H
 clear H
 go_enter Try.func139, Try.ntmps139
 go_wp2
 repeat (go_quiet (fail); try go_wp2)
 go_loopg [7, 8] k (fun kq v7 v8 w' => ∃ (x7_1 : Int) (x8_1 : Int), v7 = .int .i64 x7_1 ∧ v8 = .int .i64 x8_1 ∧ Aside0 (spec_l21Cost.l0 kq l0 l1 l2 x7_1 x8_1 = some r) ∧ Aside0 (kq ≤ k) ∧ Drawn0 w w')
 case atStart => exact ⟨(0), (0), zG100, zG100, H', ⟨Nat.le_refl _⟩, zH112⟩
 case round =>
  clear H'
  try clear c1
  try clear c2
  obtain ⟨x7_1, x8_1, rfl, rfl, HA, HK1, ⟨m1, rfl⟩⟩ := hrel
  cases gk with
  | zero => exact absurd HA.out (by simp [spec_l21Cost.l0])
  | succ k1 =>
   have H := HA.out
   clear HA
   simp only [spec_l21Cost.l0] at H
   by_cases c4 : x8_1 < (l2.length : Int)
   rotate_left
   ·rw [if_neg c4] at H
    have c4b0 := decide_eq_false c4
    clear c4
    obtain rfl := Option.some.inj H
    go_wp2
    repeat (go_quiet (fail); try go_wp2)
    go_ret
    exact zH78

   rw [if_pos c4] at H
   have c4b0 := decide_eq_true c4
   clear c4
   by_cases c5 : 0 ≤ x8_1
   rotate_left
   ·rw [if_neg c5] at H
    exact absurd H (by simp)
   rw [if_pos c5] at H
   have c5b0 := decide_eq_true c5
   clear c5
   by_cases c6 : x8_1 < (l0.length : Int)
   rotate_left
   ·rw [if_neg c6] at H
    exact absurd H (by simp)
   rw [if_pos c6] at H
   have c6b0 := decide_eq_true c6
   clear c6
   by_cases c7 : 0 ≤ (rd l2 x8_1)
   rotate_left
   ·rw [if_neg c7] at H
    exact absurd H (by simp)
   rw [if_pos c7] at H
   have c7b0 := decide_eq_true c7
   clear c7
   by_cases c8 : (rd l2 x8_1) < (l1.length : Int)
   rotate_left
   ·rw [if_neg c8] at H
    exact absurd H (by simp)
   rw [if_pos c8] at H
   have c8b0 := decide_eq_true c8
   clear c8
   have H' := zb H
   clear H
   have p209 : 0 ≤ (x8_1 : Int) := zO
   have q209 : x8_1 < (l0.length : Int) := zO
   obtain ⟨ad209, e209, hx209_0, hx209_1, hx209_2⟩ := at_T139 HR0.out x8_1 p209 q209
   cases e209
   replace p209 := eq_true p209
   replace q209 := eq_true q209
   have p210 : 0 ≤ (x8_1 : Int) := zO
   have q210 : x8_1 < (l0.length : Int) := zO
   obtain ⟨ad210, e210, hx210_0, hx210_1, hx210_2⟩ := at_T139 HR0.out x8_1 p210 q210
   obtain rfl : ad209 = ad210 := (by injection e210)
   replace p210 := eq_true p210
   replace q210 := eq_true q210
   have p211 : 0 ≤ (x8_1 : Int) := zO
   have q211 : x8_1 < (l2.length : Int) := zO
   obtain ⟨ad211, e211, hx211_0⟩ := zap HR2.out x8_1 p211 q211
   cases e211
   replace p211 := eq_true p211
   replace q211 := eq_true q211
   have p212 : 0 ≤ ((rd l2 x8_1) : Int) := zO
   have q212 : (rd l2 x8_1) < (l1.length : Int) := zO
   obtain ⟨ad212, A212_4, c212_4, e212, hx212_0, hx212_1, hx212_2, hx212_3, hx212_4, hl212_4, hi212_4⟩ := at_T72 HR1.out (rd l2 x8_1) p212 q212
   cases e212
   obtain ⟨HR212_4, HC212_4⟩ := zD2 hi212_4 hl212_4
   clear hi212_4 hl212_4
   replace p212 := eq_true p212
   replace q212 := eq_true q212
   go_wp2
   repeat (go_quiet (fail); try go_wp2)
   go_roundg k1
   case measure => have := HK1.out; omega
   case rel => exact ⟨(wrap64 (x7_1 + (wrap64 ((wrap64 (((rd_T139 l0 x8_1).f1) - ((rd_T139 l0 x8_1).f0))) * ((rd_T72 l1 (rd l2 x8_1)).f3))))), (wrap64 (x8_1 + 1)), zG100, zG100, H', ⟨zH120⟩, zH112⟩
/-! ### spec_l00Has: function 152 -/
def spec_l00Has.l0 : Nat → List ByteArray → ByteArray → Int → Option (Bool)
 | 0, _, _, _ => none
 | k + 1, x0, x1, x5 => if x5 < (x0.length : Int) then (if 0 ≤ x5 then (if (rdOf ByteArray.empty x0 x5).toList = x1.toList then (some true) else (spec_l00Has.l0 k x0 x1 (wrap64 (x5 + 1)))) else (none)) else (some false)
def spec_l00Has.f (k : Nat) (l0 : List ByteArray) (a1 : ByteArray) : Option (Bool) := spec_l00Has.l0 k l0 a1 0
theorem spec_l00Has.mono_l : ∀ k, (∀ y0 y1 y2, LeO (spec_l00Has.l0 k y0 y1 y2) (spec_l00Has.l0 (k + 1) y0 y1 y2))
 | 0 => fun _ _ _ r h => by simp [spec_l00Has.l0] at h
 | k + 1 => by
  have ih0 := spec_l00Has.mono_l k
  ·intro y0 y1 y2
   unfold spec_l00Has.l0
   repeat' first
   | (with_reducible exact ih0 _ _ _)
   | (with_reducible exact LeO.refl _)
   | (with_reducible exact LeO.none _)
   | (with_reducible refine LeO.ite ?_ ?_)
   | (with_reducible refine LeO.bind ?_ (fun _ => ?_))
   | exact ih0 _ _ _
   | exact LeO.none _
   | refine LeO.ite ?_ ?_
   | refine LeO.bind ?_ (fun _ => ?_)
theorem spec_l00Has.mono : ∀ a0 a1 k, LeO (spec_l00Has.f k a0 a1) (spec_l00Has.f (k + 1) a0 a1) := by
 intro a0 a1 k
 have ih0 := spec_l00Has.mono_l k
 unfold spec_l00Has.f
 repeat' first
   | (with_reducible exact ih0 _ _ _)
   | (with_reducible exact LeO.refl _)
   | (with_reducible exact LeO.none _)
   | (with_reducible refine LeO.ite ?_ ?_)
   | (with_reducible refine LeO.bind ?_ (fun _ => ?_))
   | exact ih0 _ _ _
   | exact LeO.none _
   | refine LeO.ite ?_ ?_
   | refine LeO.bind ?_ (fun _ => ?_)
set_option maxHeartbeats 64000000 in
set_option maxRecDepth 100000 in
theorem spec_l00Has.calls (k : Nat) (A0 : Option Addr) (c0 : Nat) (l0 : List ByteArray) (a1 : ByteArray) (r : Bool) (w : World) (hr0 : Kd.C Kd.string w A0 l0.length l0) (hc0 : l0.length ≤ c0) (h : spec_l00Has.f k l0 a1 = some r) :
  Calls Try.prog 152 #[.slice A0 l0.length c0, .string a1] w fun e w' => e = .returned (.bool r) ∧ Drawn0 w w' := by
 obtain ⟨HR0, HC0⟩ := zD2 hr0 hc0
 clear hr0 hc0
 have H : (spec_l00Has.l0 k l0 a1 0) = some r := h
 clear h
 have H' := zb H
 clear H
 go_enter Try.func152, Try.ntmps152
 go_wp2
 go_loopg [5] k (fun kq v5 w' => ∃ (x5_1 : Int), v5 = .int .i64 x5_1 ∧ Aside0 (spec_l00Has.l0 kq l0 a1 x5_1 = some r) ∧ Aside0 (kq ≤ k) ∧ Drawn0 w w')
 case atStart => exact ⟨(0), zG100, H', ⟨Nat.le_refl _⟩, zH112⟩
 case round =>
  clear H'
  obtain ⟨x5_1, rfl, HA, HK1, ⟨m1, rfl⟩⟩ := hrel
  cases gk with
  | zero => exact absurd HA.out (by simp [spec_l00Has.l0])
  | succ k1 =>
   have H := HA.out
   clear HA
   simp only [spec_l00Has.l0] at H
   by_cases c3 : x5_1 < (l0.length : Int)
   rotate_left
   ·rw [if_neg c3] at H
    have c3b0 := decide_eq_false c3
    clear c3
    obtain rfl := Option.some.inj H
    go_wp2
    go_ret
    exact zH78

   rw [if_pos c3] at H
   have c3b0 := decide_eq_true c3
   clear c3
   by_cases c4 : 0 ≤ x5_1
   rotate_left
   ·rw [if_neg c4] at H
    exact absurd H (by simp)
   rw [if_pos c4] at H
   have c4b0 := decide_eq_true c4
   clear c4
   by_cases c5 : (rdOf ByteArray.empty l0 x5_1).toList = a1.toList
   ·rw [if_pos c5] at H
    have c5b0 : ((rdOf ByteArray.empty l0 x5_1).toList == a1.toList) = true := beq_iff_eq.mpr c5
    have c5b1 : ((rdOf ByteArray.empty l0 x5_1).toList != a1.toList) = false := bne_eq_false_iff_eq.mpr c5
    clear c5
    obtain rfl := Option.some.inj H
    have p213 : 0 ≤ (x5_1 : Int) := zO
    have q213 : x5_1 < (l0.length : Int) := zO
    obtain ⟨ad213, e213, hx213_0⟩ := zal HR0.out x5_1 p213 q213
    cases e213
    replace p213 := eq_true p213
    replace q213 := eq_true q213
    go_wp2
    go_ret
    exact zH78
   rw [if_neg c5] at H
   have c5b0 : ((rdOf ByteArray.empty l0 x5_1).toList == a1.toList) = false := beq_eq_false_iff_ne.mpr c5
   have c5b1 : ((rdOf ByteArray.empty l0 x5_1).toList != a1.toList) = true := bne_iff_ne.mpr c5
   have H' := zb H
   clear H
   have p213 : 0 ≤ (x5_1 : Int) := zO
   have q213 : x5_1 < (l0.length : Int) := zO
   obtain ⟨ad213, e213, hx213_0⟩ := zal HR0.out x5_1 p213 q213
   cases e213
   replace p213 := eq_true p213
   replace q213 := eq_true q213
   go_wp2
   go_roundg k1
   case measure => have := HK1.out; omega
   case rel => exact ⟨(wrap64 (x5_1 + 1)), zG100, H', ⟨zH120⟩, zH112⟩
/-! ### spec_l21Code: function 140 -/
def spec_l21Code.l0 : Nat → List (S139) → List Int → Int → Int → Bool → Int → ByteArray → Int → Int → Int → List ByteArray → Option (Int)
 | 0, _, _, _, _, _, _, _, _, _, _, _ => none
 | k + 1, x0, x2, x3, x10, x11, x12, x217000, x217001, x217002, x217003, x217004 => if x12 < x3 then (if 0 ≤ x12 then (if x12 < (x2.length : Int) then (if 0 ≤ x3 then (if x3 < (x2.length : Int) then (if (rd x2 x12) = (rd x2 x3) then (if x12 < (x0.length : Int) then (if x11 = true then (spec_l21Code.l0 k x0 x2 x3 (wrap64 (x10 + (wrap64 (((rd_T139 x0 x12).f1) - ((rd_T139 x0 x12).f0))))) true (wrap64 (x12 + 1)) x217000 x217001 x217002 x217003 x217004) else (if x3 < (x0.length : Int) then (spec_l21Code.l0 k x0 x2 x3 (wrap64 (x10 + (wrap64 (((rd_T139 x0 x12).f1) - ((rd_T139 x0 x12).f0))))) (decide (((rd_T139 x0 x3).f0) < (wrap64 (((rd_T139 x0 x12).f1) + x217002)))) (wrap64 (x12 + 1)) x217000 x217001 x217002 x217003 x217004) else (none))) else (none)) else (spec_l21Code.l0 k x0 x2 x3 x10 x11 (wrap64 (x12 + 1)) x217000 x217001 x217002 x217003 x217004)) else (none)) else (none)) else (none)) else (none)) else (if x11 = true then (some 12) else (if x10 > x217001 then (some 11) else (some 0)))
def spec_l21Code.f (k : Nat) (l0 : List (S139)) (l1 : List (S72)) (l2 : List Int) (a3 : Int) : Option (Int) := if 0 ≤ a3 then (if a3 < (l2.length : Int) then (if 0 ≤ (rd l2 a3) then (if (rd l2 a3) < (l1.length : Int) then (if a3 < (l0.length : Int) then ((spec_l00Has.f k ((rd_T72 l1 (rd l2 a3)).f4) ((rd_T139 l0 a3).f2)).bind fun t218 => (if t218 = true then (spec_l21Code.l0 k l0 l2 a3 (wrap64 (((rd_T139 l0 a3).f1) - ((rd_T139 l0 a3).f0))) false 0 ((rd_T72 l1 (rd l2 a3)).f0) ((rd_T72 l1 (rd l2 a3)).f1) ((rd_T72 l1 (rd l2 a3)).f2) ((rd_T72 l1 (rd l2 a3)).f3) ((rd_T72 l1 (rd l2 a3)).f4)) else (some 13))) else (none)) else (none)) else (none)) else (none)) else (none)
theorem spec_l21Code.mono_l : ∀ k, (∀ y0 y1 y2 y3 y4 y5 y6 y7 y8 y9 y10, LeO (spec_l21Code.l0 k y0 y1 y2 y3 y4 y5 y6 y7 y8 y9 y10) (spec_l21Code.l0 (k + 1) y0 y1 y2 y3 y4 y5 y6 y7 y8 y9 y10))
 | 0 => fun _ _ _ _ _ _ _ _ _ _ _ r h => by simp [spec_l21Code.l0] at h
 | k + 1 => by
  have ih0 := spec_l21Code.mono_l k
  ·intro y0 y1 y2 y3 y4 y5 y6 y7 y8 y9 y10
   unfold spec_l21Code.l0
   repeat' first
   | (with_reducible exact ih0 _ _ _ _ _ _ _ _ _ _ _)
   | (with_reducible exact spec_l00Has.mono _ _ _)
   | (with_reducible exact LeO.refl _)
   | (with_reducible exact LeO.none _)
   | (with_reducible refine LeO.ite ?_ ?_)
   | (with_reducible refine LeO.bind ?_ (fun _ => ?_))
   | exact ih0 _ _ _ _ _ _ _ _ _ _ _
   | exact spec_l00Has.mono _ _ _
   | exact LeO.none _
   | refine LeO.ite ?_ ?_
   | refine LeO.bind ?_ (fun _ => ?_)
theorem spec_l21Code.mono : ∀ a0 a1 a2 a3 k, LeO (spec_l21Code.f k a0 a1 a2 a3) (spec_l21Code.f (k + 1) a0 a1 a2 a3) := by
 intro a0 a1 a2 a3 k
 have ih0 := spec_l21Code.mono_l k
 unfold spec_l21Code.f
 repeat' first
   | (with_reducible exact ih0 _ _ _ _ _ _ _ _ _ _ _)
   | (with_reducible exact spec_l00Has.mono _ _ _)
   | (with_reducible exact LeO.refl _)
   | (with_reducible exact LeO.none _)
   | (with_reducible refine LeO.ite ?_ ?_)
   | (with_reducible refine LeO.bind ?_ (fun _ => ?_))
   | exact ih0 _ _ _ _ _ _ _ _ _ _ _
   | exact spec_l00Has.mono _ _ _
   | exact LeO.none _
   | refine LeO.ite ?_ ?_
   | refine LeO.bind ?_ (fun _ => ?_)
set_option maxHeartbeats 64000000 in
set_option maxRecDepth 100000 in
theorem spec_l21Code.calls (k : Nat) (A0 : Option Addr) (c0 : Nat) (l0 : List (S139)) (A1 : Option Addr) (c1 : Nat) (l1 : List (S72)) (A2 : Option Addr) (c2 : Nat) (l2 : List Int) (a3 : Int) (r : Int) (w : World) (hr0 : Kd.C k139 w A0 l0.length l0) (hc0 : l0.length ≤ c0) (hr1 : Kd.C k72 w A1 l1.length l1) (hc1 : l1.length ≤ c1) (hr2 : Kd.C (Kd.int .i64) w A2 l2.length l2) (hc2 : l2.length ≤ c2) (h : spec_l21Code.f k l0 l1 l2 a3 = some r) :
  Calls Try.prog 140 #[.slice A0 l0.length c0, .slice A1 l1.length c1, .slice A2 l2.length c2, .int .i64 a3] w fun e w' => e = .returned (.int .i64 r) ∧ Below w.heap.size w w' := by
 have hu72 := Try.underlying72
 obtain ⟨HR0, HC0, HR1, HC1, HR2, HC2, HB⟩ := zD7 hr0 hc0 hr1 hc1 hr2 hc2 (Below.refl w.heap.size w)
 clear hr0 hc0 hr1 hc1 hr2 hc2
 have H : (if 0 ≤ a3 then (if a3 < (l2.length : Int) then (if 0 ≤ (rd l2 a3) then (if (rd l2 a3) < (l1.length : Int) then (if a3 < (l0.length : Int) then ((spec_l00Has.f k ((rd_T72 l1 (rd l2 a3)).f4) ((rd_T139 l0 a3).f2)).bind fun t218 => (if t218 = true then (spec_l21Code.l0 k l0 l2 a3 (wrap64 (((rd_T139 l0 a3).f1) - ((rd_T139 l0 a3).f0))) false 0 ((rd_T72 l1 (rd l2 a3)).f0) ((rd_T72 l1 (rd l2 a3)).f1) ((rd_T72 l1 (rd l2 a3)).f2) ((rd_T72 l1 (rd l2 a3)).f3) ((rd_T72 l1 (rd l2 a3)).f4)) else (some 13))) else (none)) else (none)) else (none)) else (none)) else (none)) = some r := h
 clear h
 by_cases c5 : 0 ≤ a3
 rotate_left
 ·rw [if_neg c5] at H
  exact absurd H (by simp)

 rw [if_pos c5] at H
 have c5b0 := decide_eq_true c5
 clear c5
 by_cases c6 : a3 < (l2.length : Int)
 rotate_left
 ·rw [if_neg c6] at H
  exact absurd H (by simp)
 rw [if_pos c6] at H
 have c6b0 := decide_eq_true c6
 clear c6
 by_cases c7 : 0 ≤ (rd l2 a3)
 rotate_left
 ·rw [if_neg c7] at H
  exact absurd H (by simp)
 rw [if_pos c7] at H
 have c7b0 := decide_eq_true c7
 clear c7
 by_cases c8 : (rd l2 a3) < (l1.length : Int)
 rotate_left
 ·rw [if_neg c8] at H
  exact absurd H (by simp)
 rw [if_pos c8] at H
 have c8b0 := decide_eq_true c8
 clear c8
 by_cases c9 : a3 < (l0.length : Int)
 rotate_left
 ·rw [if_neg c9] at H
  exact absurd H (by simp)
 rw [if_pos c9] at H
 have c9b0 := decide_eq_true c9
 clear c9
 replace H := Option.bind_eq_some_iff.mp H
 obtain ⟨t218, A100, H⟩ := H
 replace H : (if t218 = true then (spec_l21Code.l0 k l0 l2 a3 (wrap64 (((rd_T139 l0 a3).f1) - ((rd_T139 l0 a3).f0))) false 0 ((rd_T72 l1 (rd l2 a3)).f0) ((rd_T72 l1 (rd l2 a3)).f1) ((rd_T72 l1 (rd l2 a3)).f2) ((rd_T72 l1 (rd l2 a3)).f3) ((rd_T72 l1 (rd l2 a3)).f4)) else (some 13)) = some r := H
 have A10 := zb A100
 clear A100
 by_cases c11 : t218 = true
 rotate_left
 ·replace c11 := Bool.eq_false_iff.mpr c11
  subst c11
  have H1 : (some 13) = some r := by rw [if_neg (show ¬ (false = true) by decide)] at H; exact H
  clear H
  have H := H1
  clear H1
  obtain rfl := Option.some.inj H
  have p214 : 0 ≤ (a3 : Int) := zO
  have q214 : a3 < (l2.length : Int) := zO
  obtain ⟨ad214, e214, hx214_0⟩ := zap HR2.out a3 p214 q214
  cases e214
  replace p214 := eq_true p214
  replace q214 := eq_true q214
  have p215 : 0 ≤ ((rd l2 a3) : Int) := zO
  have q215 : (rd l2 a3) < (l1.length : Int) := zO
  obtain ⟨ad215, A215_4, c215_4, e215, hx215_0, hx215_1, hx215_2, hx215_3, hx215_4, hl215_4, hi215_4⟩ := at_T72 HR1.out (rd l2 a3) p215 q215
  cases e215
  obtain ⟨HR215_4, HC215_4⟩ := zD2 hi215_4 hl215_4
  clear hi215_4 hl215_4
  replace p215 := eq_true p215
  replace q215 := eq_true q215
  go_enter Try.func140, Try.ntmps140
  go_wp2_with (first | ((with_reducible refine gate_dst (N := 9) rfl ?_); refine box_event ?hg (N := 9) ?hd (cs := #[.string (⟨#[]⟩ : ByteArray), .int .i64 0, .int .i64 0, .int .i64 0, .slice none 0 0]) (t := 72) ?hr ?_; (case hd => rfl); (case hg => rfl); (case hr => exact zH117); intro gb216 hg w28 hbox hb; have n_ := zA_ (zb (zp zG77 hb)) (zA_ (zb (hbox)) (zA_ (zN1 w.heap.size hg (zo zG77)) (zN1 w.heap.size hg (zo zG77)))); clear HB; obtain ⟨HB, BK216, GW216, GE216⟩ := n_; clear hb hbox hg; obtain ⟨hcz29_0, hcz29_1, hcz29_2, hcz29_3, hcz29_4, hfz29_0, hfz29_1, hfz29_2, hfz29_3, hfz29_4⟩ := zB5 BK216.out; have p217 : 0 ≤ (a3 : Int) := zO; have q217 : a3 < (l0.length : Int) := zO; obtain ⟨ad217, e217, hx217_0, hx217_1, hx217_2⟩ := at_T139 HR0.out a3 p217 q217; cases e217; have hn217_0 : ad217.block ≠ gb216 := Nat.ne_of_lt (Nat.lt_of_lt_of_le zG99 GW216.out); have hn217_1 : ad217.block ≠ gb216 := Nat.ne_of_lt (Nat.lt_of_lt_of_le zG99 GW216.out); have hn217_2 : ad217.block ≠ gb216 := Nat.ne_of_lt (Nat.lt_of_lt_of_le zG99 GW216.out); have hn217_3 : ad217.block ≠ gb216 := Nat.ne_of_lt (Nat.lt_of_lt_of_le zG99 GW216.out); have hn217_4 : ad217.block ≠ gb216 := Nat.ne_of_lt (Nat.lt_of_lt_of_le zG99 GW216.out); replace hx217_0 := (HB.out.cell (za w _ hx217_0)).trans hx217_0; replace hx217_1 := (HB.out.cell (za w _ hx217_1)).trans hx217_1; replace hx217_2 := (HB.out.cell (za w _ hx217_2)).trans hx217_2; replace hx217_0 := (cell_far (p := ⟨gb216, 0, none⟩) zG72 (.string ((rd_T72 l1 (rd l2 a3)).f0))).trans hx217_0; replace hx217_1 := (cell_far (p := ⟨gb216, 0, none⟩) zG72 (.string ((rd_T72 l1 (rd l2 a3)).f0))).trans hx217_1; replace hx217_2 := (cell_far (p := ⟨gb216, 0, none⟩) zG72 (.string ((rd_T72 l1 (rd l2 a3)).f0))).trans hx217_2; replace hx217_0 := (cell_far (p := ⟨gb216, 1, none⟩) zG73 (.int .i64 ((rd_T72 l1 (rd l2 a3)).f1))).trans hx217_0; replace hx217_1 := (cell_far (p := ⟨gb216, 1, none⟩) zG73 (.int .i64 ((rd_T72 l1 (rd l2 a3)).f1))).trans hx217_1; replace hx217_2 := (cell_far (p := ⟨gb216, 1, none⟩) zG73 (.int .i64 ((rd_T72 l1 (rd l2 a3)).f1))).trans hx217_2; replace hx217_0 := (cell_far (p := ⟨gb216, 2, none⟩) zG74 (.int .i64 ((rd_T72 l1 (rd l2 a3)).f2))).trans hx217_0; replace hx217_1 := (cell_far (p := ⟨gb216, 2, none⟩) zG74 (.int .i64 ((rd_T72 l1 (rd l2 a3)).f2))).trans hx217_1; replace hx217_2 := (cell_far (p := ⟨gb216, 2, none⟩) zG74 (.int .i64 ((rd_T72 l1 (rd l2 a3)).f2))).trans hx217_2; replace hx217_0 := (cell_far (p := ⟨gb216, 3, none⟩) zG75 (.int .i64 ((rd_T72 l1 (rd l2 a3)).f3))).trans hx217_0; replace hx217_1 := (cell_far (p := ⟨gb216, 3, none⟩) zG75 (.int .i64 ((rd_T72 l1 (rd l2 a3)).f3))).trans hx217_1; replace hx217_2 := (cell_far (p := ⟨gb216, 3, none⟩) zG75 (.int .i64 ((rd_T72 l1 (rd l2 a3)).f3))).trans hx217_2; replace hx217_0 := (cell_far (p := ⟨gb216, 4, none⟩) zG76 (.slice A215_4 ((rd_T72 l1 (rd l2 a3)).f4).length c215_4)).trans hx217_0; replace hx217_1 := (cell_far (p := ⟨gb216, 4, none⟩) zG76 (.slice A215_4 ((rd_T72 l1 (rd l2 a3)).f4).length c215_4)).trans hx217_1; replace hx217_2 := (cell_far (p := ⟨gb216, 4, none⟩) zG76 (.slice A215_4 ((rd_T72 l1 (rd l2 a3)).f4).length c215_4)).trans hx217_2; (try have hy217_0 := fun (n_ : Nat) => (show (((((((w28.drewN n_).setCell ⟨gb216, 0, none⟩ (.string ((rd_T72 l1 (rd l2 a3)).f0))).setCell ⟨gb216, 1, none⟩ (.int .i64 ((rd_T72 l1 (rd l2 a3)).f1))).setCell ⟨gb216, 2, none⟩ (.int .i64 ((rd_T72 l1 (rd l2 a3)).f2))).setCell ⟨gb216, 3, none⟩ (.int .i64 ((rd_T72 l1 (rd l2 a3)).f3))).setCell ⟨gb216, 4, none⟩ (.slice A215_4 ((rd_T72 l1 (rd l2 a3)).f4).length c215_4))).cell? _ = some _ from hx217_0)); (try have hy217_1 := fun (n_ : Nat) => (show (((((((w28.drewN n_).setCell ⟨gb216, 0, none⟩ (.string ((rd_T72 l1 (rd l2 a3)).f0))).setCell ⟨gb216, 1, none⟩ (.int .i64 ((rd_T72 l1 (rd l2 a3)).f1))).setCell ⟨gb216, 2, none⟩ (.int .i64 ((rd_T72 l1 (rd l2 a3)).f2))).setCell ⟨gb216, 3, none⟩ (.int .i64 ((rd_T72 l1 (rd l2 a3)).f3))).setCell ⟨gb216, 4, none⟩ (.slice A215_4 ((rd_T72 l1 (rd l2 a3)).f4).length c215_4))).cell? _ = some _ from hx217_1)); (try have hy217_2 := fun (n_ : Nat) => (show (((((((w28.drewN n_).setCell ⟨gb216, 0, none⟩ (.string ((rd_T72 l1 (rd l2 a3)).f0))).setCell ⟨gb216, 1, none⟩ (.int .i64 ((rd_T72 l1 (rd l2 a3)).f1))).setCell ⟨gb216, 2, none⟩ (.int .i64 ((rd_T72 l1 (rd l2 a3)).f2))).setCell ⟨gb216, 3, none⟩ (.int .i64 ((rd_T72 l1 (rd l2 a3)).f3))).setCell ⟨gb216, 4, none⟩ (.slice A215_4 ((rd_T72 l1 (rd l2 a3)).f4).length c215_4))).cell? _ = some _ from hx217_2)); clear hn217_0 hn217_1; clear hn217_2 hn217_3 hn217_4; replace p217 := eq_true p217; replace q217 := eq_true q217) | (go_at_call 152; (with_reducible refine (spec_l00Has.calls k _ _ ((rd_T72 l1 (rd l2 a3)).f4) ((rd_T139 l0 a3).f2) false _ ?side1 ?side2 A10.out).mono ?_); (case side1 => exact zH45); (case side2 => exact HC215_4.out); rintro e w' ⟨rfl, ⟨nd, rfl⟩⟩; (try first | exact ⟨rfl, _, World.drewN_drewN _ _ _⟩ | exact ⟨rfl, _, Eq.trans (World.drewN_drewN _ _ _) (congrArg (World.drewN _) (Nat.add_assoc _ _ _))⟩)))
  repeat (go_quiet (first | ((with_reducible refine gate_dst (N := 9) rfl ?_); refine box_event ?hg (N := 9) ?hd (cs := #[.string (⟨#[]⟩ : ByteArray), .int .i64 0, .int .i64 0, .int .i64 0, .slice none 0 0]) (t := 72) ?hr ?_; (case hd => rfl); (case hg => rfl); (case hr => exact zH117); intro gb216 hg w28 hbox hb; have n_ := zA_ (zb (zp zG77 hb)) (zA_ (zb (hbox)) (zA_ (zN1 w.heap.size hg (zo zG77)) (zN1 w.heap.size hg (zo zG77)))); clear HB; obtain ⟨HB, BK216, GW216, GE216⟩ := n_; clear hb hbox hg; obtain ⟨hcz29_0, hcz29_1, hcz29_2, hcz29_3, hcz29_4, hfz29_0, hfz29_1, hfz29_2, hfz29_3, hfz29_4⟩ := zB5 BK216.out; have p217 : 0 ≤ (a3 : Int) := zO; have q217 : a3 < (l0.length : Int) := zO; obtain ⟨ad217, e217, hx217_0, hx217_1, hx217_2⟩ := at_T139 HR0.out a3 p217 q217; cases e217; have hn217_0 : ad217.block ≠ gb216 := Nat.ne_of_lt (Nat.lt_of_lt_of_le zG99 GW216.out); have hn217_1 : ad217.block ≠ gb216 := Nat.ne_of_lt (Nat.lt_of_lt_of_le zG99 GW216.out); have hn217_2 : ad217.block ≠ gb216 := Nat.ne_of_lt (Nat.lt_of_lt_of_le zG99 GW216.out); have hn217_3 : ad217.block ≠ gb216 := Nat.ne_of_lt (Nat.lt_of_lt_of_le zG99 GW216.out); have hn217_4 : ad217.block ≠ gb216 := Nat.ne_of_lt (Nat.lt_of_lt_of_le zG99 GW216.out); replace hx217_0 := (HB.out.cell (za w _ hx217_0)).trans hx217_0; replace hx217_1 := (HB.out.cell (za w _ hx217_1)).trans hx217_1; replace hx217_2 := (HB.out.cell (za w _ hx217_2)).trans hx217_2; replace hx217_0 := (cell_far (p := ⟨gb216, 0, none⟩) zG72 (.string ((rd_T72 l1 (rd l2 a3)).f0))).trans hx217_0; replace hx217_1 := (cell_far (p := ⟨gb216, 0, none⟩) zG72 (.string ((rd_T72 l1 (rd l2 a3)).f0))).trans hx217_1; replace hx217_2 := (cell_far (p := ⟨gb216, 0, none⟩) zG72 (.string ((rd_T72 l1 (rd l2 a3)).f0))).trans hx217_2; replace hx217_0 := (cell_far (p := ⟨gb216, 1, none⟩) zG73 (.int .i64 ((rd_T72 l1 (rd l2 a3)).f1))).trans hx217_0; replace hx217_1 := (cell_far (p := ⟨gb216, 1, none⟩) zG73 (.int .i64 ((rd_T72 l1 (rd l2 a3)).f1))).trans hx217_1; replace hx217_2 := (cell_far (p := ⟨gb216, 1, none⟩) zG73 (.int .i64 ((rd_T72 l1 (rd l2 a3)).f1))).trans hx217_2; replace hx217_0 := (cell_far (p := ⟨gb216, 2, none⟩) zG74 (.int .i64 ((rd_T72 l1 (rd l2 a3)).f2))).trans hx217_0; replace hx217_1 := (cell_far (p := ⟨gb216, 2, none⟩) zG74 (.int .i64 ((rd_T72 l1 (rd l2 a3)).f2))).trans hx217_1; replace hx217_2 := (cell_far (p := ⟨gb216, 2, none⟩) zG74 (.int .i64 ((rd_T72 l1 (rd l2 a3)).f2))).trans hx217_2; replace hx217_0 := (cell_far (p := ⟨gb216, 3, none⟩) zG75 (.int .i64 ((rd_T72 l1 (rd l2 a3)).f3))).trans hx217_0; replace hx217_1 := (cell_far (p := ⟨gb216, 3, none⟩) zG75 (.int .i64 ((rd_T72 l1 (rd l2 a3)).f3))).trans hx217_1; replace hx217_2 := (cell_far (p := ⟨gb216, 3, none⟩) zG75 (.int .i64 ((rd_T72 l1 (rd l2 a3)).f3))).trans hx217_2; replace hx217_0 := (cell_far (p := ⟨gb216, 4, none⟩) zG76 (.slice A215_4 ((rd_T72 l1 (rd l2 a3)).f4).length c215_4)).trans hx217_0; replace hx217_1 := (cell_far (p := ⟨gb216, 4, none⟩) zG76 (.slice A215_4 ((rd_T72 l1 (rd l2 a3)).f4).length c215_4)).trans hx217_1; replace hx217_2 := (cell_far (p := ⟨gb216, 4, none⟩) zG76 (.slice A215_4 ((rd_T72 l1 (rd l2 a3)).f4).length c215_4)).trans hx217_2; (try have hy217_0 := fun (n_ : Nat) => (show (((((((w28.drewN n_).setCell ⟨gb216, 0, none⟩ (.string ((rd_T72 l1 (rd l2 a3)).f0))).setCell ⟨gb216, 1, none⟩ (.int .i64 ((rd_T72 l1 (rd l2 a3)).f1))).setCell ⟨gb216, 2, none⟩ (.int .i64 ((rd_T72 l1 (rd l2 a3)).f2))).setCell ⟨gb216, 3, none⟩ (.int .i64 ((rd_T72 l1 (rd l2 a3)).f3))).setCell ⟨gb216, 4, none⟩ (.slice A215_4 ((rd_T72 l1 (rd l2 a3)).f4).length c215_4))).cell? _ = some _ from hx217_0)); (try have hy217_1 := fun (n_ : Nat) => (show (((((((w28.drewN n_).setCell ⟨gb216, 0, none⟩ (.string ((rd_T72 l1 (rd l2 a3)).f0))).setCell ⟨gb216, 1, none⟩ (.int .i64 ((rd_T72 l1 (rd l2 a3)).f1))).setCell ⟨gb216, 2, none⟩ (.int .i64 ((rd_T72 l1 (rd l2 a3)).f2))).setCell ⟨gb216, 3, none⟩ (.int .i64 ((rd_T72 l1 (rd l2 a3)).f3))).setCell ⟨gb216, 4, none⟩ (.slice A215_4 ((rd_T72 l1 (rd l2 a3)).f4).length c215_4))).cell? _ = some _ from hx217_1)); (try have hy217_2 := fun (n_ : Nat) => (show (((((((w28.drewN n_).setCell ⟨gb216, 0, none⟩ (.string ((rd_T72 l1 (rd l2 a3)).f0))).setCell ⟨gb216, 1, none⟩ (.int .i64 ((rd_T72 l1 (rd l2 a3)).f1))).setCell ⟨gb216, 2, none⟩ (.int .i64 ((rd_T72 l1 (rd l2 a3)).f2))).setCell ⟨gb216, 3, none⟩ (.int .i64 ((rd_T72 l1 (rd l2 a3)).f3))).setCell ⟨gb216, 4, none⟩ (.slice A215_4 ((rd_T72 l1 (rd l2 a3)).f4).length c215_4))).cell? _ = some _ from hx217_2)); clear hn217_0 hn217_1; clear hn217_2 hn217_3 hn217_4; replace p217 := eq_true p217; replace q217 := eq_true q217) | (go_at_call 152; (with_reducible refine (spec_l00Has.calls k _ _ ((rd_T72 l1 (rd l2 a3)).f4) ((rd_T139 l0 a3).f2) false _ ?side1 ?side2 A10.out).mono ?_); (case side1 => exact zH45); (case side2 => exact HC215_4.out); rintro e w' ⟨rfl, ⟨nd, rfl⟩⟩; (try first | exact ⟨rfl, _, World.drewN_drewN _ _ _⟩ | exact ⟨rfl, _, Eq.trans (World.drewN_drewN _ _ _) (congrArg (World.drewN _) (Nat.add_assoc _ _ _))⟩))); try go_wp2_with (first | ((with_reducible refine gate_dst (N := 9) rfl ?_); refine box_event ?hg (N := 9) ?hd (cs := #[.string (⟨#[]⟩ : ByteArray), .int .i64 0, .int .i64 0, .int .i64 0, .slice none 0 0]) (t := 72) ?hr ?_; (case hd => rfl); (case hg => rfl); (case hr => exact zH117); intro gb216 hg w28 hbox hb; have n_ := zA_ (zb (zp zG77 hb)) (zA_ (zb (hbox)) (zA_ (zN1 w.heap.size hg (zo zG77)) (zN1 w.heap.size hg (zo zG77)))); clear HB; obtain ⟨HB, BK216, GW216, GE216⟩ := n_; clear hb hbox hg; obtain ⟨hcz29_0, hcz29_1, hcz29_2, hcz29_3, hcz29_4, hfz29_0, hfz29_1, hfz29_2, hfz29_3, hfz29_4⟩ := zB5 BK216.out; have p217 : 0 ≤ (a3 : Int) := zO; have q217 : a3 < (l0.length : Int) := zO; obtain ⟨ad217, e217, hx217_0, hx217_1, hx217_2⟩ := at_T139 HR0.out a3 p217 q217; cases e217; have hn217_0 : ad217.block ≠ gb216 := Nat.ne_of_lt (Nat.lt_of_lt_of_le zG99 GW216.out); have hn217_1 : ad217.block ≠ gb216 := Nat.ne_of_lt (Nat.lt_of_lt_of_le zG99 GW216.out); have hn217_2 : ad217.block ≠ gb216 := Nat.ne_of_lt (Nat.lt_of_lt_of_le zG99 GW216.out); have hn217_3 : ad217.block ≠ gb216 := Nat.ne_of_lt (Nat.lt_of_lt_of_le zG99 GW216.out); have hn217_4 : ad217.block ≠ gb216 := Nat.ne_of_lt (Nat.lt_of_lt_of_le zG99 GW216.out); replace hx217_0 := (HB.out.cell (za w _ hx217_0)).trans hx217_0; replace hx217_1 := (HB.out.cell (za w _ hx217_1)).trans hx217_1; replace hx217_2 := (HB.out.cell (za w _ hx217_2)).trans hx217_2; replace hx217_0 := (cell_far (p := ⟨gb216, 0, none⟩) zG72 (.string ((rd_T72 l1 (rd l2 a3)).f0))).trans hx217_0; replace hx217_1 := (cell_far (p := ⟨gb216, 0, none⟩) zG72 (.string ((rd_T72 l1 (rd l2 a3)).f0))).trans hx217_1; replace hx217_2 := (cell_far (p := ⟨gb216, 0, none⟩) zG72 (.string ((rd_T72 l1 (rd l2 a3)).f0))).trans hx217_2; replace hx217_0 := (cell_far (p := ⟨gb216, 1, none⟩) zG73 (.int .i64 ((rd_T72 l1 (rd l2 a3)).f1))).trans hx217_0; replace hx217_1 := (cell_far (p := ⟨gb216, 1, none⟩) zG73 (.int .i64 ((rd_T72 l1 (rd l2 a3)).f1))).trans hx217_1; replace hx217_2 := (cell_far (p := ⟨gb216, 1, none⟩) zG73 (.int .i64 ((rd_T72 l1 (rd l2 a3)).f1))).trans hx217_2; replace hx217_0 := (cell_far (p := ⟨gb216, 2, none⟩) zG74 (.int .i64 ((rd_T72 l1 (rd l2 a3)).f2))).trans hx217_0; replace hx217_1 := (cell_far (p := ⟨gb216, 2, none⟩) zG74 (.int .i64 ((rd_T72 l1 (rd l2 a3)).f2))).trans hx217_1; replace hx217_2 := (cell_far (p := ⟨gb216, 2, none⟩) zG74 (.int .i64 ((rd_T72 l1 (rd l2 a3)).f2))).trans hx217_2; replace hx217_0 := (cell_far (p := ⟨gb216, 3, none⟩) zG75 (.int .i64 ((rd_T72 l1 (rd l2 a3)).f3))).trans hx217_0; replace hx217_1 := (cell_far (p := ⟨gb216, 3, none⟩) zG75 (.int .i64 ((rd_T72 l1 (rd l2 a3)).f3))).trans hx217_1; replace hx217_2 := (cell_far (p := ⟨gb216, 3, none⟩) zG75 (.int .i64 ((rd_T72 l1 (rd l2 a3)).f3))).trans hx217_2; replace hx217_0 := (cell_far (p := ⟨gb216, 4, none⟩) zG76 (.slice A215_4 ((rd_T72 l1 (rd l2 a3)).f4).length c215_4)).trans hx217_0; replace hx217_1 := (cell_far (p := ⟨gb216, 4, none⟩) zG76 (.slice A215_4 ((rd_T72 l1 (rd l2 a3)).f4).length c215_4)).trans hx217_1; replace hx217_2 := (cell_far (p := ⟨gb216, 4, none⟩) zG76 (.slice A215_4 ((rd_T72 l1 (rd l2 a3)).f4).length c215_4)).trans hx217_2; (try have hy217_0 := fun (n_ : Nat) => (show (((((((w28.drewN n_).setCell ⟨gb216, 0, none⟩ (.string ((rd_T72 l1 (rd l2 a3)).f0))).setCell ⟨gb216, 1, none⟩ (.int .i64 ((rd_T72 l1 (rd l2 a3)).f1))).setCell ⟨gb216, 2, none⟩ (.int .i64 ((rd_T72 l1 (rd l2 a3)).f2))).setCell ⟨gb216, 3, none⟩ (.int .i64 ((rd_T72 l1 (rd l2 a3)).f3))).setCell ⟨gb216, 4, none⟩ (.slice A215_4 ((rd_T72 l1 (rd l2 a3)).f4).length c215_4))).cell? _ = some _ from hx217_0)); (try have hy217_1 := fun (n_ : Nat) => (show (((((((w28.drewN n_).setCell ⟨gb216, 0, none⟩ (.string ((rd_T72 l1 (rd l2 a3)).f0))).setCell ⟨gb216, 1, none⟩ (.int .i64 ((rd_T72 l1 (rd l2 a3)).f1))).setCell ⟨gb216, 2, none⟩ (.int .i64 ((rd_T72 l1 (rd l2 a3)).f2))).setCell ⟨gb216, 3, none⟩ (.int .i64 ((rd_T72 l1 (rd l2 a3)).f3))).setCell ⟨gb216, 4, none⟩ (.slice A215_4 ((rd_T72 l1 (rd l2 a3)).f4).length c215_4))).cell? _ = some _ from hx217_1)); (try have hy217_2 := fun (n_ : Nat) => (show (((((((w28.drewN n_).setCell ⟨gb216, 0, none⟩ (.string ((rd_T72 l1 (rd l2 a3)).f0))).setCell ⟨gb216, 1, none⟩ (.int .i64 ((rd_T72 l1 (rd l2 a3)).f1))).setCell ⟨gb216, 2, none⟩ (.int .i64 ((rd_T72 l1 (rd l2 a3)).f2))).setCell ⟨gb216, 3, none⟩ (.int .i64 ((rd_T72 l1 (rd l2 a3)).f3))).setCell ⟨gb216, 4, none⟩ (.slice A215_4 ((rd_T72 l1 (rd l2 a3)).f4).length c215_4))).cell? _ = some _ from hx217_2)); clear hn217_0 hn217_1; clear hn217_2 hn217_3 hn217_4; replace p217 := eq_true p217; replace q217 := eq_true q217) | (go_at_call 152; (with_reducible refine (spec_l00Has.calls k _ _ ((rd_T72 l1 (rd l2 a3)).f4) ((rd_T139 l0 a3).f2) false _ ?side1 ?side2 A10.out).mono ?_); (case side1 => exact zH45); (case side2 => exact HC215_4.out); rintro e w' ⟨rfl, ⟨nd, rfl⟩⟩; (try first | exact ⟨rfl, _, World.drewN_drewN _ _ _⟩ | exact ⟨rfl, _, Eq.trans (World.drewN_drewN _ _ _) (congrArg (World.drewN _) (Nat.add_assoc _ _ _))⟩))))
  go_ret
  exact zH30
 subst c11
 have H1 : (spec_l21Code.l0 k l0 l2 a3 (wrap64 (((rd_T139 l0 a3).f1) - ((rd_T139 l0 a3).f0))) false 0 ((rd_T72 l1 (rd l2 a3)).f0) ((rd_T72 l1 (rd l2 a3)).f1) ((rd_T72 l1 (rd l2 a3)).f2) ((rd_T72 l1 (rd l2 a3)).f3) ((rd_T72 l1 (rd l2 a3)).f4)) = some r := by rw [if_pos rfl] at H; exact H
 clear H
 have H := H1
 clear H1
 have H' := zb H
 clear H
 have p214 : 0 ≤ (a3 : Int) := zO
 have q214 : a3 < (l2.length : Int) := zO
 obtain ⟨ad214, e214, hx214_0⟩ := zap HR2.out a3 p214 q214
 cases e214
 replace p214 := eq_true p214
 replace q214 := eq_true q214
 have p215 : 0 ≤ ((rd l2 a3) : Int) := zO
 have q215 : (rd l2 a3) < (l1.length : Int) := zO
 obtain ⟨ad215, A215_4, c215_4, e215, hx215_0, hx215_1, hx215_2, hx215_3, hx215_4, hl215_4, hi215_4⟩ := at_T72 HR1.out (rd l2 a3) p215 q215
 cases e215
 obtain ⟨HR215_4, HC215_4⟩ := zD2 hi215_4 hl215_4
 clear hi215_4 hl215_4
 replace p215 := eq_true p215
 replace q215 := eq_true q215
 go_enter Try.func140, Try.ntmps140
 go_wp2_with (first | ((with_reducible refine gate_dst (N := 9) rfl ?_); refine box_event ?hg (N := 9) ?hd (cs := #[.string (⟨#[]⟩ : ByteArray), .int .i64 0, .int .i64 0, .int .i64 0, .slice none 0 0]) (t := 72) ?hr ?_; (case hd => rfl); (case hg => rfl); (case hr => exact zH117); intro gb216 hg w12 hbox hb; have n_ := zA_ (zb (zp zG77 hb)) (zA_ (zb (hbox)) (zA_ (zN1 w.heap.size hg (zo zG77)) (zN1 w.heap.size hg (zo zG77)))); clear HB; obtain ⟨HB, BK216, GW216, GE216⟩ := n_; clear hb hbox hg; obtain ⟨hcz13_0, hcz13_1, hcz13_2, hcz13_3, hcz13_4, hfz13_0, hfz13_1, hfz13_2, hfz13_3, hfz13_4⟩ := zB5 BK216.out; have p217 : 0 ≤ (a3 : Int) := zO; have q217 : a3 < (l0.length : Int) := zO; obtain ⟨ad217, e217, hx217_0, hx217_1, hx217_2⟩ := at_T139 HR0.out a3 p217 q217; cases e217; have hn217_0 : ad217.block ≠ gb216 := Nat.ne_of_lt (Nat.lt_of_lt_of_le zG99 GW216.out); have hn217_1 : ad217.block ≠ gb216 := Nat.ne_of_lt (Nat.lt_of_lt_of_le zG99 GW216.out); have hn217_2 : ad217.block ≠ gb216 := Nat.ne_of_lt (Nat.lt_of_lt_of_le zG99 GW216.out); have hn217_3 : ad217.block ≠ gb216 := Nat.ne_of_lt (Nat.lt_of_lt_of_le zG99 GW216.out); have hn217_4 : ad217.block ≠ gb216 := Nat.ne_of_lt (Nat.lt_of_lt_of_le zG99 GW216.out); replace hx217_0 := (HB.out.cell (za w _ hx217_0)).trans hx217_0; replace hx217_1 := (HB.out.cell (za w _ hx217_1)).trans hx217_1; replace hx217_2 := (HB.out.cell (za w _ hx217_2)).trans hx217_2; replace hx217_0 := (cell_far (p := ⟨gb216, 0, none⟩) zG72 (.string ((rd_T72 l1 (rd l2 a3)).f0))).trans hx217_0; replace hx217_1 := (cell_far (p := ⟨gb216, 0, none⟩) zG72 (.string ((rd_T72 l1 (rd l2 a3)).f0))).trans hx217_1; replace hx217_2 := (cell_far (p := ⟨gb216, 0, none⟩) zG72 (.string ((rd_T72 l1 (rd l2 a3)).f0))).trans hx217_2; replace hx217_0 := (cell_far (p := ⟨gb216, 1, none⟩) zG73 (.int .i64 ((rd_T72 l1 (rd l2 a3)).f1))).trans hx217_0; replace hx217_1 := (cell_far (p := ⟨gb216, 1, none⟩) zG73 (.int .i64 ((rd_T72 l1 (rd l2 a3)).f1))).trans hx217_1; replace hx217_2 := (cell_far (p := ⟨gb216, 1, none⟩) zG73 (.int .i64 ((rd_T72 l1 (rd l2 a3)).f1))).trans hx217_2; replace hx217_0 := (cell_far (p := ⟨gb216, 2, none⟩) zG74 (.int .i64 ((rd_T72 l1 (rd l2 a3)).f2))).trans hx217_0; replace hx217_1 := (cell_far (p := ⟨gb216, 2, none⟩) zG74 (.int .i64 ((rd_T72 l1 (rd l2 a3)).f2))).trans hx217_1; replace hx217_2 := (cell_far (p := ⟨gb216, 2, none⟩) zG74 (.int .i64 ((rd_T72 l1 (rd l2 a3)).f2))).trans hx217_2; replace hx217_0 := (cell_far (p := ⟨gb216, 3, none⟩) zG75 (.int .i64 ((rd_T72 l1 (rd l2 a3)).f3))).trans hx217_0; replace hx217_1 := (cell_far (p := ⟨gb216, 3, none⟩) zG75 (.int .i64 ((rd_T72 l1 (rd l2 a3)).f3))).trans hx217_1; replace hx217_2 := (cell_far (p := ⟨gb216, 3, none⟩) zG75 (.int .i64 ((rd_T72 l1 (rd l2 a3)).f3))).trans hx217_2; replace hx217_0 := (cell_far (p := ⟨gb216, 4, none⟩) zG76 (.slice A215_4 ((rd_T72 l1 (rd l2 a3)).f4).length c215_4)).trans hx217_0; replace hx217_1 := (cell_far (p := ⟨gb216, 4, none⟩) zG76 (.slice A215_4 ((rd_T72 l1 (rd l2 a3)).f4).length c215_4)).trans hx217_1; replace hx217_2 := (cell_far (p := ⟨gb216, 4, none⟩) zG76 (.slice A215_4 ((rd_T72 l1 (rd l2 a3)).f4).length c215_4)).trans hx217_2; (try have hy217_0 := fun (n_ : Nat) => (show (((((((w12.drewN n_).setCell ⟨gb216, 0, none⟩ (.string ((rd_T72 l1 (rd l2 a3)).f0))).setCell ⟨gb216, 1, none⟩ (.int .i64 ((rd_T72 l1 (rd l2 a3)).f1))).setCell ⟨gb216, 2, none⟩ (.int .i64 ((rd_T72 l1 (rd l2 a3)).f2))).setCell ⟨gb216, 3, none⟩ (.int .i64 ((rd_T72 l1 (rd l2 a3)).f3))).setCell ⟨gb216, 4, none⟩ (.slice A215_4 ((rd_T72 l1 (rd l2 a3)).f4).length c215_4))).cell? _ = some _ from hx217_0)); (try have hy217_1 := fun (n_ : Nat) => (show (((((((w12.drewN n_).setCell ⟨gb216, 0, none⟩ (.string ((rd_T72 l1 (rd l2 a3)).f0))).setCell ⟨gb216, 1, none⟩ (.int .i64 ((rd_T72 l1 (rd l2 a3)).f1))).setCell ⟨gb216, 2, none⟩ (.int .i64 ((rd_T72 l1 (rd l2 a3)).f2))).setCell ⟨gb216, 3, none⟩ (.int .i64 ((rd_T72 l1 (rd l2 a3)).f3))).setCell ⟨gb216, 4, none⟩ (.slice A215_4 ((rd_T72 l1 (rd l2 a3)).f4).length c215_4))).cell? _ = some _ from hx217_1)); (try have hy217_2 := fun (n_ : Nat) => (show (((((((w12.drewN n_).setCell ⟨gb216, 0, none⟩ (.string ((rd_T72 l1 (rd l2 a3)).f0))).setCell ⟨gb216, 1, none⟩ (.int .i64 ((rd_T72 l1 (rd l2 a3)).f1))).setCell ⟨gb216, 2, none⟩ (.int .i64 ((rd_T72 l1 (rd l2 a3)).f2))).setCell ⟨gb216, 3, none⟩ (.int .i64 ((rd_T72 l1 (rd l2 a3)).f3))).setCell ⟨gb216, 4, none⟩ (.slice A215_4 ((rd_T72 l1 (rd l2 a3)).f4).length c215_4))).cell? _ = some _ from hx217_2)); clear hn217_0 hn217_1; clear hn217_2 hn217_3 hn217_4; replace p217 := eq_true p217; replace q217 := eq_true q217) | (go_at_call 152; (with_reducible refine (spec_l00Has.calls k _ _ ((rd_T72 l1 (rd l2 a3)).f4) ((rd_T139 l0 a3).f2) true _ ?side1 ?side2 A10.out).mono ?_); (case side1 => exact zH45); (case side2 => exact HC215_4.out); rintro e w' ⟨rfl, ⟨nd, rfl⟩⟩; (try first | exact ⟨rfl, _, World.drewN_drewN _ _ _⟩ | exact ⟨rfl, _, Eq.trans (World.drewN_drewN _ _ _) (congrArg (World.drewN _) (Nat.add_assoc _ _ _))⟩); have p219 : 0 ≤ (a3 : Int) := zO; have q219 : a3 < (l0.length : Int) := zO; obtain ⟨ad219, e219, hx219_0, hx219_1, hx219_2⟩ := at_T139 HR0.out a3 p219 q219; obtain rfl : ad217 = ad219 := (by injection e219); have hn219_0 : ad217.block ≠ gb216 := Nat.ne_of_lt (Nat.lt_of_lt_of_le zK233 GW216.out); have hn219_1 : ad217.block ≠ gb216 := Nat.ne_of_lt (Nat.lt_of_lt_of_le zK233 GW216.out); have hn219_2 : ad217.block ≠ gb216 := Nat.ne_of_lt (Nat.lt_of_lt_of_le zK233 GW216.out); have hn219_3 : ad217.block ≠ gb216 := Nat.ne_of_lt (Nat.lt_of_lt_of_le zK233 GW216.out); have hn219_4 : ad217.block ≠ gb216 := Nat.ne_of_lt (Nat.lt_of_lt_of_le zK233 GW216.out); replace hx219_0 := (HB.out.cell (za w _ hx219_0)).trans hx219_0; replace hx219_1 := (HB.out.cell (za w _ hx219_1)).trans hx219_1; replace hx219_2 := (HB.out.cell (za w _ hx219_2)).trans hx219_2; replace hx219_0 := (cell_far (p := ⟨gb216, 0, none⟩) zK194 (.string ((rd_T72 l1 (rd l2 a3)).f0))).trans hx219_0; replace hx219_1 := (cell_far (p := ⟨gb216, 0, none⟩) zK194 (.string ((rd_T72 l1 (rd l2 a3)).f0))).trans hx219_1; replace hx219_2 := (cell_far (p := ⟨gb216, 0, none⟩) zK194 (.string ((rd_T72 l1 (rd l2 a3)).f0))).trans hx219_2; replace hx219_0 := (cell_far (p := ⟨gb216, 1, none⟩) zK195 (.int .i64 ((rd_T72 l1 (rd l2 a3)).f1))).trans hx219_0; replace hx219_1 := (cell_far (p := ⟨gb216, 1, none⟩) zK195 (.int .i64 ((rd_T72 l1 (rd l2 a3)).f1))).trans hx219_1; replace hx219_2 := (cell_far (p := ⟨gb216, 1, none⟩) zK195 (.int .i64 ((rd_T72 l1 (rd l2 a3)).f1))).trans hx219_2; replace hx219_0 := (cell_far (p := ⟨gb216, 2, none⟩) zK196 (.int .i64 ((rd_T72 l1 (rd l2 a3)).f2))).trans hx219_0; replace hx219_1 := (cell_far (p := ⟨gb216, 2, none⟩) zK196 (.int .i64 ((rd_T72 l1 (rd l2 a3)).f2))).trans hx219_1; replace hx219_2 := (cell_far (p := ⟨gb216, 2, none⟩) zK196 (.int .i64 ((rd_T72 l1 (rd l2 a3)).f2))).trans hx219_2; replace hx219_0 := (cell_far (p := ⟨gb216, 3, none⟩) zK197 (.int .i64 ((rd_T72 l1 (rd l2 a3)).f3))).trans hx219_0; replace hx219_1 := (cell_far (p := ⟨gb216, 3, none⟩) zK197 (.int .i64 ((rd_T72 l1 (rd l2 a3)).f3))).trans hx219_1; replace hx219_2 := (cell_far (p := ⟨gb216, 3, none⟩) zK197 (.int .i64 ((rd_T72 l1 (rd l2 a3)).f3))).trans hx219_2; replace hx219_0 := (cell_far (p := ⟨gb216, 4, none⟩) zK198 (.slice A215_4 ((rd_T72 l1 (rd l2 a3)).f4).length c215_4)).trans hx219_0; replace hx219_1 := (cell_far (p := ⟨gb216, 4, none⟩) zK198 (.slice A215_4 ((rd_T72 l1 (rd l2 a3)).f4).length c215_4)).trans hx219_1; replace hx219_2 := (cell_far (p := ⟨gb216, 4, none⟩) zK198 (.slice A215_4 ((rd_T72 l1 (rd l2 a3)).f4).length c215_4)).trans hx219_2; (try have hy219_0 := fun (n_ : Nat) => (show (((((((w12.drewN n_).setCell ⟨gb216, 0, none⟩ (.string ((rd_T72 l1 (rd l2 a3)).f0))).setCell ⟨gb216, 1, none⟩ (.int .i64 ((rd_T72 l1 (rd l2 a3)).f1))).setCell ⟨gb216, 2, none⟩ (.int .i64 ((rd_T72 l1 (rd l2 a3)).f2))).setCell ⟨gb216, 3, none⟩ (.int .i64 ((rd_T72 l1 (rd l2 a3)).f3))).setCell ⟨gb216, 4, none⟩ (.slice A215_4 ((rd_T72 l1 (rd l2 a3)).f4).length c215_4))).cell? _ = some _ from hx219_0)); (try have hy219_1 := fun (n_ : Nat) => (show (((((((w12.drewN n_).setCell ⟨gb216, 0, none⟩ (.string ((rd_T72 l1 (rd l2 a3)).f0))).setCell ⟨gb216, 1, none⟩ (.int .i64 ((rd_T72 l1 (rd l2 a3)).f1))).setCell ⟨gb216, 2, none⟩ (.int .i64 ((rd_T72 l1 (rd l2 a3)).f2))).setCell ⟨gb216, 3, none⟩ (.int .i64 ((rd_T72 l1 (rd l2 a3)).f3))).setCell ⟨gb216, 4, none⟩ (.slice A215_4 ((rd_T72 l1 (rd l2 a3)).f4).length c215_4))).cell? _ = some _ from hx219_1)); (try have hy219_2 := fun (n_ : Nat) => (show (((((((w12.drewN n_).setCell ⟨gb216, 0, none⟩ (.string ((rd_T72 l1 (rd l2 a3)).f0))).setCell ⟨gb216, 1, none⟩ (.int .i64 ((rd_T72 l1 (rd l2 a3)).f1))).setCell ⟨gb216, 2, none⟩ (.int .i64 ((rd_T72 l1 (rd l2 a3)).f2))).setCell ⟨gb216, 3, none⟩ (.int .i64 ((rd_T72 l1 (rd l2 a3)).f3))).setCell ⟨gb216, 4, none⟩ (.slice A215_4 ((rd_T72 l1 (rd l2 a3)).f4).length c215_4))).cell? _ = some _ from hx219_2)); clear hn219_0 hn219_1; clear hn219_2 hn219_3 hn219_4; replace p219 := eq_true p219; replace q219 := eq_true q219; have p220 : 0 ≤ (a3 : Int) := zO; have q220 : a3 < (l0.length : Int) := zO; obtain ⟨ad220, e220, hx220_0, hx220_1, hx220_2⟩ := at_T139 HR0.out a3 p220 q220; obtain rfl : ad217 = ad220 := (by injection e220); have hn220_0 : ad217.block ≠ gb216 := Nat.ne_of_lt (Nat.lt_of_lt_of_le zK234 GW216.out); have hn220_1 : ad217.block ≠ gb216 := Nat.ne_of_lt (Nat.lt_of_lt_of_le zK234 GW216.out); have hn220_2 : ad217.block ≠ gb216 := Nat.ne_of_lt (Nat.lt_of_lt_of_le zK234 GW216.out); have hn220_3 : ad217.block ≠ gb216 := Nat.ne_of_lt (Nat.lt_of_lt_of_le zK234 GW216.out); have hn220_4 : ad217.block ≠ gb216 := Nat.ne_of_lt (Nat.lt_of_lt_of_le zK234 GW216.out); replace hx220_0 := (HB.out.cell (za w _ hx220_0)).trans hx220_0; replace hx220_1 := (HB.out.cell (za w _ hx220_1)).trans hx220_1; replace hx220_2 := (HB.out.cell (za w _ hx220_2)).trans hx220_2; replace hx220_0 := (cell_far (p := ⟨gb216, 0, none⟩) zK199 (.string ((rd_T72 l1 (rd l2 a3)).f0))).trans hx220_0; replace hx220_1 := (cell_far (p := ⟨gb216, 0, none⟩) zK199 (.string ((rd_T72 l1 (rd l2 a3)).f0))).trans hx220_1; replace hx220_2 := (cell_far (p := ⟨gb216, 0, none⟩) zK199 (.string ((rd_T72 l1 (rd l2 a3)).f0))).trans hx220_2; replace hx220_0 := (cell_far (p := ⟨gb216, 1, none⟩) zK200 (.int .i64 ((rd_T72 l1 (rd l2 a3)).f1))).trans hx220_0; replace hx220_1 := (cell_far (p := ⟨gb216, 1, none⟩) zK200 (.int .i64 ((rd_T72 l1 (rd l2 a3)).f1))).trans hx220_1; replace hx220_2 := (cell_far (p := ⟨gb216, 1, none⟩) zK200 (.int .i64 ((rd_T72 l1 (rd l2 a3)).f1))).trans hx220_2; replace hx220_0 := (cell_far (p := ⟨gb216, 2, none⟩) zK201 (.int .i64 ((rd_T72 l1 (rd l2 a3)).f2))).trans hx220_0; replace hx220_1 := (cell_far (p := ⟨gb216, 2, none⟩) zK201 (.int .i64 ((rd_T72 l1 (rd l2 a3)).f2))).trans hx220_1; replace hx220_2 := (cell_far (p := ⟨gb216, 2, none⟩) zK201 (.int .i64 ((rd_T72 l1 (rd l2 a3)).f2))).trans hx220_2; replace hx220_0 := (cell_far (p := ⟨gb216, 3, none⟩) zK202 (.int .i64 ((rd_T72 l1 (rd l2 a3)).f3))).trans hx220_0; replace hx220_1 := (cell_far (p := ⟨gb216, 3, none⟩) zK202 (.int .i64 ((rd_T72 l1 (rd l2 a3)).f3))).trans hx220_1; replace hx220_2 := (cell_far (p := ⟨gb216, 3, none⟩) zK202 (.int .i64 ((rd_T72 l1 (rd l2 a3)).f3))).trans hx220_2; replace hx220_0 := (cell_far (p := ⟨gb216, 4, none⟩) zK203 (.slice A215_4 ((rd_T72 l1 (rd l2 a3)).f4).length c215_4)).trans hx220_0; replace hx220_1 := (cell_far (p := ⟨gb216, 4, none⟩) zK203 (.slice A215_4 ((rd_T72 l1 (rd l2 a3)).f4).length c215_4)).trans hx220_1; replace hx220_2 := (cell_far (p := ⟨gb216, 4, none⟩) zK203 (.slice A215_4 ((rd_T72 l1 (rd l2 a3)).f4).length c215_4)).trans hx220_2; (try have hy220_0 := fun (n_ : Nat) => (show (((((((w12.drewN n_).setCell ⟨gb216, 0, none⟩ (.string ((rd_T72 l1 (rd l2 a3)).f0))).setCell ⟨gb216, 1, none⟩ (.int .i64 ((rd_T72 l1 (rd l2 a3)).f1))).setCell ⟨gb216, 2, none⟩ (.int .i64 ((rd_T72 l1 (rd l2 a3)).f2))).setCell ⟨gb216, 3, none⟩ (.int .i64 ((rd_T72 l1 (rd l2 a3)).f3))).setCell ⟨gb216, 4, none⟩ (.slice A215_4 ((rd_T72 l1 (rd l2 a3)).f4).length c215_4))).cell? _ = some _ from hx220_0)); (try have hy220_1 := fun (n_ : Nat) => (show (((((((w12.drewN n_).setCell ⟨gb216, 0, none⟩ (.string ((rd_T72 l1 (rd l2 a3)).f0))).setCell ⟨gb216, 1, none⟩ (.int .i64 ((rd_T72 l1 (rd l2 a3)).f1))).setCell ⟨gb216, 2, none⟩ (.int .i64 ((rd_T72 l1 (rd l2 a3)).f2))).setCell ⟨gb216, 3, none⟩ (.int .i64 ((rd_T72 l1 (rd l2 a3)).f3))).setCell ⟨gb216, 4, none⟩ (.slice A215_4 ((rd_T72 l1 (rd l2 a3)).f4).length c215_4))).cell? _ = some _ from hx220_1)); (try have hy220_2 := fun (n_ : Nat) => (show (((((((w12.drewN n_).setCell ⟨gb216, 0, none⟩ (.string ((rd_T72 l1 (rd l2 a3)).f0))).setCell ⟨gb216, 1, none⟩ (.int .i64 ((rd_T72 l1 (rd l2 a3)).f1))).setCell ⟨gb216, 2, none⟩ (.int .i64 ((rd_T72 l1 (rd l2 a3)).f2))).setCell ⟨gb216, 3, none⟩ (.int .i64 ((rd_T72 l1 (rd l2 a3)).f3))).setCell ⟨gb216, 4, none⟩ (.slice A215_4 ((rd_T72 l1 (rd l2 a3)).f4).length c215_4))).cell? _ = some _ from hx220_2)); clear hn220_0 hn220_1; clear hn220_2 hn220_3 hn220_4; replace p220 := eq_true p220; replace q220 := eq_true q220))
 repeat (go_quiet (first | ((with_reducible refine gate_dst (N := 9) rfl ?_); refine box_event ?hg (N := 9) ?hd (cs := #[.string (⟨#[]⟩ : ByteArray), .int .i64 0, .int .i64 0, .int .i64 0, .slice none 0 0]) (t := 72) ?hr ?_; (case hd => rfl); (case hg => rfl); (case hr => exact zH117); intro gb216 hg w12 hbox hb; have n_ := zA_ (zb (zp zG77 hb)) (zA_ (zb (hbox)) (zA_ (zN1 w.heap.size hg (zo zG77)) (zN1 w.heap.size hg (zo zG77)))); clear HB; obtain ⟨HB, BK216, GW216, GE216⟩ := n_; clear hb hbox hg; obtain ⟨hcz13_0, hcz13_1, hcz13_2, hcz13_3, hcz13_4, hfz13_0, hfz13_1, hfz13_2, hfz13_3, hfz13_4⟩ := zB5 BK216.out; have p217 : 0 ≤ (a3 : Int) := zO; have q217 : a3 < (l0.length : Int) := zO; obtain ⟨ad217, e217, hx217_0, hx217_1, hx217_2⟩ := at_T139 HR0.out a3 p217 q217; cases e217; have hn217_0 : ad217.block ≠ gb216 := Nat.ne_of_lt (Nat.lt_of_lt_of_le zG99 GW216.out); have hn217_1 : ad217.block ≠ gb216 := Nat.ne_of_lt (Nat.lt_of_lt_of_le zG99 GW216.out); have hn217_2 : ad217.block ≠ gb216 := Nat.ne_of_lt (Nat.lt_of_lt_of_le zG99 GW216.out); have hn217_3 : ad217.block ≠ gb216 := Nat.ne_of_lt (Nat.lt_of_lt_of_le zG99 GW216.out); have hn217_4 : ad217.block ≠ gb216 := Nat.ne_of_lt (Nat.lt_of_lt_of_le zG99 GW216.out); replace hx217_0 := (HB.out.cell (za w _ hx217_0)).trans hx217_0; replace hx217_1 := (HB.out.cell (za w _ hx217_1)).trans hx217_1; replace hx217_2 := (HB.out.cell (za w _ hx217_2)).trans hx217_2; replace hx217_0 := (cell_far (p := ⟨gb216, 0, none⟩) zG72 (.string ((rd_T72 l1 (rd l2 a3)).f0))).trans hx217_0; replace hx217_1 := (cell_far (p := ⟨gb216, 0, none⟩) zG72 (.string ((rd_T72 l1 (rd l2 a3)).f0))).trans hx217_1; replace hx217_2 := (cell_far (p := ⟨gb216, 0, none⟩) zG72 (.string ((rd_T72 l1 (rd l2 a3)).f0))).trans hx217_2; replace hx217_0 := (cell_far (p := ⟨gb216, 1, none⟩) zG73 (.int .i64 ((rd_T72 l1 (rd l2 a3)).f1))).trans hx217_0; replace hx217_1 := (cell_far (p := ⟨gb216, 1, none⟩) zG73 (.int .i64 ((rd_T72 l1 (rd l2 a3)).f1))).trans hx217_1; replace hx217_2 := (cell_far (p := ⟨gb216, 1, none⟩) zG73 (.int .i64 ((rd_T72 l1 (rd l2 a3)).f1))).trans hx217_2; replace hx217_0 := (cell_far (p := ⟨gb216, 2, none⟩) zG74 (.int .i64 ((rd_T72 l1 (rd l2 a3)).f2))).trans hx217_0; replace hx217_1 := (cell_far (p := ⟨gb216, 2, none⟩) zG74 (.int .i64 ((rd_T72 l1 (rd l2 a3)).f2))).trans hx217_1; replace hx217_2 := (cell_far (p := ⟨gb216, 2, none⟩) zG74 (.int .i64 ((rd_T72 l1 (rd l2 a3)).f2))).trans hx217_2; replace hx217_0 := (cell_far (p := ⟨gb216, 3, none⟩) zG75 (.int .i64 ((rd_T72 l1 (rd l2 a3)).f3))).trans hx217_0; replace hx217_1 := (cell_far (p := ⟨gb216, 3, none⟩) zG75 (.int .i64 ((rd_T72 l1 (rd l2 a3)).f3))).trans hx217_1; replace hx217_2 := (cell_far (p := ⟨gb216, 3, none⟩) zG75 (.int .i64 ((rd_T72 l1 (rd l2 a3)).f3))).trans hx217_2; replace hx217_0 := (cell_far (p := ⟨gb216, 4, none⟩) zG76 (.slice A215_4 ((rd_T72 l1 (rd l2 a3)).f4).length c215_4)).trans hx217_0; replace hx217_1 := (cell_far (p := ⟨gb216, 4, none⟩) zG76 (.slice A215_4 ((rd_T72 l1 (rd l2 a3)).f4).length c215_4)).trans hx217_1; replace hx217_2 := (cell_far (p := ⟨gb216, 4, none⟩) zG76 (.slice A215_4 ((rd_T72 l1 (rd l2 a3)).f4).length c215_4)).trans hx217_2; (try have hy217_0 := fun (n_ : Nat) => (show (((((((w12.drewN n_).setCell ⟨gb216, 0, none⟩ (.string ((rd_T72 l1 (rd l2 a3)).f0))).setCell ⟨gb216, 1, none⟩ (.int .i64 ((rd_T72 l1 (rd l2 a3)).f1))).setCell ⟨gb216, 2, none⟩ (.int .i64 ((rd_T72 l1 (rd l2 a3)).f2))).setCell ⟨gb216, 3, none⟩ (.int .i64 ((rd_T72 l1 (rd l2 a3)).f3))).setCell ⟨gb216, 4, none⟩ (.slice A215_4 ((rd_T72 l1 (rd l2 a3)).f4).length c215_4))).cell? _ = some _ from hx217_0)); (try have hy217_1 := fun (n_ : Nat) => (show (((((((w12.drewN n_).setCell ⟨gb216, 0, none⟩ (.string ((rd_T72 l1 (rd l2 a3)).f0))).setCell ⟨gb216, 1, none⟩ (.int .i64 ((rd_T72 l1 (rd l2 a3)).f1))).setCell ⟨gb216, 2, none⟩ (.int .i64 ((rd_T72 l1 (rd l2 a3)).f2))).setCell ⟨gb216, 3, none⟩ (.int .i64 ((rd_T72 l1 (rd l2 a3)).f3))).setCell ⟨gb216, 4, none⟩ (.slice A215_4 ((rd_T72 l1 (rd l2 a3)).f4).length c215_4))).cell? _ = some _ from hx217_1)); (try have hy217_2 := fun (n_ : Nat) => (show (((((((w12.drewN n_).setCell ⟨gb216, 0, none⟩ (.string ((rd_T72 l1 (rd l2 a3)).f0))).setCell ⟨gb216, 1, none⟩ (.int .i64 ((rd_T72 l1 (rd l2 a3)).f1))).setCell ⟨gb216, 2, none⟩ (.int .i64 ((rd_T72 l1 (rd l2 a3)).f2))).setCell ⟨gb216, 3, none⟩ (.int .i64 ((rd_T72 l1 (rd l2 a3)).f3))).setCell ⟨gb216, 4, none⟩ (.slice A215_4 ((rd_T72 l1 (rd l2 a3)).f4).length c215_4))).cell? _ = some _ from hx217_2)); clear hn217_0 hn217_1; clear hn217_2 hn217_3 hn217_4; replace p217 := eq_true p217; replace q217 := eq_true q217) | (go_at_call 152; (with_reducible refine (spec_l00Has.calls k _ _ ((rd_T72 l1 (rd l2 a3)).f4) ((rd_T139 l0 a3).f2) true _ ?side1 ?side2 A10.out).mono ?_); (case side1 => exact zH45); (case side2 => exact HC215_4.out); rintro e w' ⟨rfl, ⟨nd, rfl⟩⟩; (try first | exact ⟨rfl, _, World.drewN_drewN _ _ _⟩ | exact ⟨rfl, _, Eq.trans (World.drewN_drewN _ _ _) (congrArg (World.drewN _) (Nat.add_assoc _ _ _))⟩); have p219 : 0 ≤ (a3 : Int) := zO; have q219 : a3 < (l0.length : Int) := zO; obtain ⟨ad219, e219, hx219_0, hx219_1, hx219_2⟩ := at_T139 HR0.out a3 p219 q219; obtain rfl : ad217 = ad219 := (by injection e219); have hn219_0 : ad217.block ≠ gb216 := Nat.ne_of_lt (Nat.lt_of_lt_of_le zK233 GW216.out); have hn219_1 : ad217.block ≠ gb216 := Nat.ne_of_lt (Nat.lt_of_lt_of_le zK233 GW216.out); have hn219_2 : ad217.block ≠ gb216 := Nat.ne_of_lt (Nat.lt_of_lt_of_le zK233 GW216.out); have hn219_3 : ad217.block ≠ gb216 := Nat.ne_of_lt (Nat.lt_of_lt_of_le zK233 GW216.out); have hn219_4 : ad217.block ≠ gb216 := Nat.ne_of_lt (Nat.lt_of_lt_of_le zK233 GW216.out); replace hx219_0 := (HB.out.cell (za w _ hx219_0)).trans hx219_0; replace hx219_1 := (HB.out.cell (za w _ hx219_1)).trans hx219_1; replace hx219_2 := (HB.out.cell (za w _ hx219_2)).trans hx219_2; replace hx219_0 := (cell_far (p := ⟨gb216, 0, none⟩) zK194 (.string ((rd_T72 l1 (rd l2 a3)).f0))).trans hx219_0; replace hx219_1 := (cell_far (p := ⟨gb216, 0, none⟩) zK194 (.string ((rd_T72 l1 (rd l2 a3)).f0))).trans hx219_1; replace hx219_2 := (cell_far (p := ⟨gb216, 0, none⟩) zK194 (.string ((rd_T72 l1 (rd l2 a3)).f0))).trans hx219_2; replace hx219_0 := (cell_far (p := ⟨gb216, 1, none⟩) zK195 (.int .i64 ((rd_T72 l1 (rd l2 a3)).f1))).trans hx219_0; replace hx219_1 := (cell_far (p := ⟨gb216, 1, none⟩) zK195 (.int .i64 ((rd_T72 l1 (rd l2 a3)).f1))).trans hx219_1; replace hx219_2 := (cell_far (p := ⟨gb216, 1, none⟩) zK195 (.int .i64 ((rd_T72 l1 (rd l2 a3)).f1))).trans hx219_2; replace hx219_0 := (cell_far (p := ⟨gb216, 2, none⟩) zK196 (.int .i64 ((rd_T72 l1 (rd l2 a3)).f2))).trans hx219_0; replace hx219_1 := (cell_far (p := ⟨gb216, 2, none⟩) zK196 (.int .i64 ((rd_T72 l1 (rd l2 a3)).f2))).trans hx219_1; replace hx219_2 := (cell_far (p := ⟨gb216, 2, none⟩) zK196 (.int .i64 ((rd_T72 l1 (rd l2 a3)).f2))).trans hx219_2; replace hx219_0 := (cell_far (p := ⟨gb216, 3, none⟩) zK197 (.int .i64 ((rd_T72 l1 (rd l2 a3)).f3))).trans hx219_0; replace hx219_1 := (cell_far (p := ⟨gb216, 3, none⟩) zK197 (.int .i64 ((rd_T72 l1 (rd l2 a3)).f3))).trans hx219_1; replace hx219_2 := (cell_far (p := ⟨gb216, 3, none⟩) zK197 (.int .i64 ((rd_T72 l1 (rd l2 a3)).f3))).trans hx219_2; replace hx219_0 := (cell_far (p := ⟨gb216, 4, none⟩) zK198 (.slice A215_4 ((rd_T72 l1 (rd l2 a3)).f4).length c215_4)).trans hx219_0; replace hx219_1 := (cell_far (p := ⟨gb216, 4, none⟩) zK198 (.slice A215_4 ((rd_T72 l1 (rd l2 a3)).f4).length c215_4)).trans hx219_1; replace hx219_2 := (cell_far (p := ⟨gb216, 4, none⟩) zK198 (.slice A215_4 ((rd_T72 l1 (rd l2 a3)).f4).length c215_4)).trans hx219_2; (try have hy219_0 := fun (n_ : Nat) => (show (((((((w12.drewN n_).setCell ⟨gb216, 0, none⟩ (.string ((rd_T72 l1 (rd l2 a3)).f0))).setCell ⟨gb216, 1, none⟩ (.int .i64 ((rd_T72 l1 (rd l2 a3)).f1))).setCell ⟨gb216, 2, none⟩ (.int .i64 ((rd_T72 l1 (rd l2 a3)).f2))).setCell ⟨gb216, 3, none⟩ (.int .i64 ((rd_T72 l1 (rd l2 a3)).f3))).setCell ⟨gb216, 4, none⟩ (.slice A215_4 ((rd_T72 l1 (rd l2 a3)).f4).length c215_4))).cell? _ = some _ from hx219_0)); (try have hy219_1 := fun (n_ : Nat) => (show (((((((w12.drewN n_).setCell ⟨gb216, 0, none⟩ (.string ((rd_T72 l1 (rd l2 a3)).f0))).setCell ⟨gb216, 1, none⟩ (.int .i64 ((rd_T72 l1 (rd l2 a3)).f1))).setCell ⟨gb216, 2, none⟩ (.int .i64 ((rd_T72 l1 (rd l2 a3)).f2))).setCell ⟨gb216, 3, none⟩ (.int .i64 ((rd_T72 l1 (rd l2 a3)).f3))).setCell ⟨gb216, 4, none⟩ (.slice A215_4 ((rd_T72 l1 (rd l2 a3)).f4).length c215_4))).cell? _ = some _ from hx219_1)); (try have hy219_2 := fun (n_ : Nat) => (show (((((((w12.drewN n_).setCell ⟨gb216, 0, none⟩ (.string ((rd_T72 l1 (rd l2 a3)).f0))).setCell ⟨gb216, 1, none⟩ (.int .i64 ((rd_T72 l1 (rd l2 a3)).f1))).setCell ⟨gb216, 2, none⟩ (.int .i64 ((rd_T72 l1 (rd l2 a3)).f2))).setCell ⟨gb216, 3, none⟩ (.int .i64 ((rd_T72 l1 (rd l2 a3)).f3))).setCell ⟨gb216, 4, none⟩ (.slice A215_4 ((rd_T72 l1 (rd l2 a3)).f4).length c215_4))).cell? _ = some _ from hx219_2)); clear hn219_0 hn219_1; clear hn219_2 hn219_3 hn219_4; replace p219 := eq_true p219; replace q219 := eq_true q219; have p220 : 0 ≤ (a3 : Int) := zO; have q220 : a3 < (l0.length : Int) := zO; obtain ⟨ad220, e220, hx220_0, hx220_1, hx220_2⟩ := at_T139 HR0.out a3 p220 q220; obtain rfl : ad217 = ad220 := (by injection e220); have hn220_0 : ad217.block ≠ gb216 := Nat.ne_of_lt (Nat.lt_of_lt_of_le zK234 GW216.out); have hn220_1 : ad217.block ≠ gb216 := Nat.ne_of_lt (Nat.lt_of_lt_of_le zK234 GW216.out); have hn220_2 : ad217.block ≠ gb216 := Nat.ne_of_lt (Nat.lt_of_lt_of_le zK234 GW216.out); have hn220_3 : ad217.block ≠ gb216 := Nat.ne_of_lt (Nat.lt_of_lt_of_le zK234 GW216.out); have hn220_4 : ad217.block ≠ gb216 := Nat.ne_of_lt (Nat.lt_of_lt_of_le zK234 GW216.out); replace hx220_0 := (HB.out.cell (za w _ hx220_0)).trans hx220_0; replace hx220_1 := (HB.out.cell (za w _ hx220_1)).trans hx220_1; replace hx220_2 := (HB.out.cell (za w _ hx220_2)).trans hx220_2; replace hx220_0 := (cell_far (p := ⟨gb216, 0, none⟩) zK199 (.string ((rd_T72 l1 (rd l2 a3)).f0))).trans hx220_0; replace hx220_1 := (cell_far (p := ⟨gb216, 0, none⟩) zK199 (.string ((rd_T72 l1 (rd l2 a3)).f0))).trans hx220_1; replace hx220_2 := (cell_far (p := ⟨gb216, 0, none⟩) zK199 (.string ((rd_T72 l1 (rd l2 a3)).f0))).trans hx220_2; replace hx220_0 := (cell_far (p := ⟨gb216, 1, none⟩) zK200 (.int .i64 ((rd_T72 l1 (rd l2 a3)).f1))).trans hx220_0; replace hx220_1 := (cell_far (p := ⟨gb216, 1, none⟩) zK200 (.int .i64 ((rd_T72 l1 (rd l2 a3)).f1))).trans hx220_1; replace hx220_2 := (cell_far (p := ⟨gb216, 1, none⟩) zK200 (.int .i64 ((rd_T72 l1 (rd l2 a3)).f1))).trans hx220_2; replace hx220_0 := (cell_far (p := ⟨gb216, 2, none⟩) zK201 (.int .i64 ((rd_T72 l1 (rd l2 a3)).f2))).trans hx220_0; replace hx220_1 := (cell_far (p := ⟨gb216, 2, none⟩) zK201 (.int .i64 ((rd_T72 l1 (rd l2 a3)).f2))).trans hx220_1; replace hx220_2 := (cell_far (p := ⟨gb216, 2, none⟩) zK201 (.int .i64 ((rd_T72 l1 (rd l2 a3)).f2))).trans hx220_2; replace hx220_0 := (cell_far (p := ⟨gb216, 3, none⟩) zK202 (.int .i64 ((rd_T72 l1 (rd l2 a3)).f3))).trans hx220_0; replace hx220_1 := (cell_far (p := ⟨gb216, 3, none⟩) zK202 (.int .i64 ((rd_T72 l1 (rd l2 a3)).f3))).trans hx220_1; replace hx220_2 := (cell_far (p := ⟨gb216, 3, none⟩) zK202 (.int .i64 ((rd_T72 l1 (rd l2 a3)).f3))).trans hx220_2; replace hx220_0 := (cell_far (p := ⟨gb216, 4, none⟩) zK203 (.slice A215_4 ((rd_T72 l1 (rd l2 a3)).f4).length c215_4)).trans hx220_0; replace hx220_1 := (cell_far (p := ⟨gb216, 4, none⟩) zK203 (.slice A215_4 ((rd_T72 l1 (rd l2 a3)).f4).length c215_4)).trans hx220_1; replace hx220_2 := (cell_far (p := ⟨gb216, 4, none⟩) zK203 (.slice A215_4 ((rd_T72 l1 (rd l2 a3)).f4).length c215_4)).trans hx220_2; (try have hy220_0 := fun (n_ : Nat) => (show (((((((w12.drewN n_).setCell ⟨gb216, 0, none⟩ (.string ((rd_T72 l1 (rd l2 a3)).f0))).setCell ⟨gb216, 1, none⟩ (.int .i64 ((rd_T72 l1 (rd l2 a3)).f1))).setCell ⟨gb216, 2, none⟩ (.int .i64 ((rd_T72 l1 (rd l2 a3)).f2))).setCell ⟨gb216, 3, none⟩ (.int .i64 ((rd_T72 l1 (rd l2 a3)).f3))).setCell ⟨gb216, 4, none⟩ (.slice A215_4 ((rd_T72 l1 (rd l2 a3)).f4).length c215_4))).cell? _ = some _ from hx220_0)); (try have hy220_1 := fun (n_ : Nat) => (show (((((((w12.drewN n_).setCell ⟨gb216, 0, none⟩ (.string ((rd_T72 l1 (rd l2 a3)).f0))).setCell ⟨gb216, 1, none⟩ (.int .i64 ((rd_T72 l1 (rd l2 a3)).f1))).setCell ⟨gb216, 2, none⟩ (.int .i64 ((rd_T72 l1 (rd l2 a3)).f2))).setCell ⟨gb216, 3, none⟩ (.int .i64 ((rd_T72 l1 (rd l2 a3)).f3))).setCell ⟨gb216, 4, none⟩ (.slice A215_4 ((rd_T72 l1 (rd l2 a3)).f4).length c215_4))).cell? _ = some _ from hx220_1)); (try have hy220_2 := fun (n_ : Nat) => (show (((((((w12.drewN n_).setCell ⟨gb216, 0, none⟩ (.string ((rd_T72 l1 (rd l2 a3)).f0))).setCell ⟨gb216, 1, none⟩ (.int .i64 ((rd_T72 l1 (rd l2 a3)).f1))).setCell ⟨gb216, 2, none⟩ (.int .i64 ((rd_T72 l1 (rd l2 a3)).f2))).setCell ⟨gb216, 3, none⟩ (.int .i64 ((rd_T72 l1 (rd l2 a3)).f3))).setCell ⟨gb216, 4, none⟩ (.slice A215_4 ((rd_T72 l1 (rd l2 a3)).f4).length c215_4))).cell? _ = some _ from hx220_2)); clear hn220_0 hn220_1; clear hn220_2 hn220_3 hn220_4; replace p220 := eq_true p220; replace q220 := eq_true q220)); try go_wp2_with (first | ((with_reducible refine gate_dst (N := 9) rfl ?_); refine box_event ?hg (N := 9) ?hd (cs := #[.string (⟨#[]⟩ : ByteArray), .int .i64 0, .int .i64 0, .int .i64 0, .slice none 0 0]) (t := 72) ?hr ?_; (case hd => rfl); (case hg => rfl); (case hr => exact zH117); intro gb216 hg w12 hbox hb; have n_ := zA_ (zb (zp zG77 hb)) (zA_ (zb (hbox)) (zA_ (zN1 w.heap.size hg (zo zG77)) (zN1 w.heap.size hg (zo zG77)))); clear HB; obtain ⟨HB, BK216, GW216, GE216⟩ := n_; clear hb hbox hg; obtain ⟨hcz13_0, hcz13_1, hcz13_2, hcz13_3, hcz13_4, hfz13_0, hfz13_1, hfz13_2, hfz13_3, hfz13_4⟩ := zB5 BK216.out; have p217 : 0 ≤ (a3 : Int) := zO; have q217 : a3 < (l0.length : Int) := zO; obtain ⟨ad217, e217, hx217_0, hx217_1, hx217_2⟩ := at_T139 HR0.out a3 p217 q217; cases e217; have hn217_0 : ad217.block ≠ gb216 := Nat.ne_of_lt (Nat.lt_of_lt_of_le zG99 GW216.out); have hn217_1 : ad217.block ≠ gb216 := Nat.ne_of_lt (Nat.lt_of_lt_of_le zG99 GW216.out); have hn217_2 : ad217.block ≠ gb216 := Nat.ne_of_lt (Nat.lt_of_lt_of_le zG99 GW216.out); have hn217_3 : ad217.block ≠ gb216 := Nat.ne_of_lt (Nat.lt_of_lt_of_le zG99 GW216.out); have hn217_4 : ad217.block ≠ gb216 := Nat.ne_of_lt (Nat.lt_of_lt_of_le zG99 GW216.out); replace hx217_0 := (HB.out.cell (za w _ hx217_0)).trans hx217_0; replace hx217_1 := (HB.out.cell (za w _ hx217_1)).trans hx217_1; replace hx217_2 := (HB.out.cell (za w _ hx217_2)).trans hx217_2; replace hx217_0 := (cell_far (p := ⟨gb216, 0, none⟩) zG72 (.string ((rd_T72 l1 (rd l2 a3)).f0))).trans hx217_0; replace hx217_1 := (cell_far (p := ⟨gb216, 0, none⟩) zG72 (.string ((rd_T72 l1 (rd l2 a3)).f0))).trans hx217_1; replace hx217_2 := (cell_far (p := ⟨gb216, 0, none⟩) zG72 (.string ((rd_T72 l1 (rd l2 a3)).f0))).trans hx217_2; replace hx217_0 := (cell_far (p := ⟨gb216, 1, none⟩) zG73 (.int .i64 ((rd_T72 l1 (rd l2 a3)).f1))).trans hx217_0; replace hx217_1 := (cell_far (p := ⟨gb216, 1, none⟩) zG73 (.int .i64 ((rd_T72 l1 (rd l2 a3)).f1))).trans hx217_1; replace hx217_2 := (cell_far (p := ⟨gb216, 1, none⟩) zG73 (.int .i64 ((rd_T72 l1 (rd l2 a3)).f1))).trans hx217_2; replace hx217_0 := (cell_far (p := ⟨gb216, 2, none⟩) zG74 (.int .i64 ((rd_T72 l1 (rd l2 a3)).f2))).trans hx217_0; replace hx217_1 := (cell_far (p := ⟨gb216, 2, none⟩) zG74 (.int .i64 ((rd_T72 l1 (rd l2 a3)).f2))).trans hx217_1; replace hx217_2 := (cell_far (p := ⟨gb216, 2, none⟩) zG74 (.int .i64 ((rd_T72 l1 (rd l2 a3)).f2))).trans hx217_2; replace hx217_0 := (cell_far (p := ⟨gb216, 3, none⟩) zG75 (.int .i64 ((rd_T72 l1 (rd l2 a3)).f3))).trans hx217_0; replace hx217_1 := (cell_far (p := ⟨gb216, 3, none⟩) zG75 (.int .i64 ((rd_T72 l1 (rd l2 a3)).f3))).trans hx217_1; replace hx217_2 := (cell_far (p := ⟨gb216, 3, none⟩) zG75 (.int .i64 ((rd_T72 l1 (rd l2 a3)).f3))).trans hx217_2; replace hx217_0 := (cell_far (p := ⟨gb216, 4, none⟩) zG76 (.slice A215_4 ((rd_T72 l1 (rd l2 a3)).f4).length c215_4)).trans hx217_0; replace hx217_1 := (cell_far (p := ⟨gb216, 4, none⟩) zG76 (.slice A215_4 ((rd_T72 l1 (rd l2 a3)).f4).length c215_4)).trans hx217_1; replace hx217_2 := (cell_far (p := ⟨gb216, 4, none⟩) zG76 (.slice A215_4 ((rd_T72 l1 (rd l2 a3)).f4).length c215_4)).trans hx217_2; (try have hy217_0 := fun (n_ : Nat) => (show (((((((w12.drewN n_).setCell ⟨gb216, 0, none⟩ (.string ((rd_T72 l1 (rd l2 a3)).f0))).setCell ⟨gb216, 1, none⟩ (.int .i64 ((rd_T72 l1 (rd l2 a3)).f1))).setCell ⟨gb216, 2, none⟩ (.int .i64 ((rd_T72 l1 (rd l2 a3)).f2))).setCell ⟨gb216, 3, none⟩ (.int .i64 ((rd_T72 l1 (rd l2 a3)).f3))).setCell ⟨gb216, 4, none⟩ (.slice A215_4 ((rd_T72 l1 (rd l2 a3)).f4).length c215_4))).cell? _ = some _ from hx217_0)); (try have hy217_1 := fun (n_ : Nat) => (show (((((((w12.drewN n_).setCell ⟨gb216, 0, none⟩ (.string ((rd_T72 l1 (rd l2 a3)).f0))).setCell ⟨gb216, 1, none⟩ (.int .i64 ((rd_T72 l1 (rd l2 a3)).f1))).setCell ⟨gb216, 2, none⟩ (.int .i64 ((rd_T72 l1 (rd l2 a3)).f2))).setCell ⟨gb216, 3, none⟩ (.int .i64 ((rd_T72 l1 (rd l2 a3)).f3))).setCell ⟨gb216, 4, none⟩ (.slice A215_4 ((rd_T72 l1 (rd l2 a3)).f4).length c215_4))).cell? _ = some _ from hx217_1)); (try have hy217_2 := fun (n_ : Nat) => (show (((((((w12.drewN n_).setCell ⟨gb216, 0, none⟩ (.string ((rd_T72 l1 (rd l2 a3)).f0))).setCell ⟨gb216, 1, none⟩ (.int .i64 ((rd_T72 l1 (rd l2 a3)).f1))).setCell ⟨gb216, 2, none⟩ (.int .i64 ((rd_T72 l1 (rd l2 a3)).f2))).setCell ⟨gb216, 3, none⟩ (.int .i64 ((rd_T72 l1 (rd l2 a3)).f3))).setCell ⟨gb216, 4, none⟩ (.slice A215_4 ((rd_T72 l1 (rd l2 a3)).f4).length c215_4))).cell? _ = some _ from hx217_2)); clear hn217_0 hn217_1; clear hn217_2 hn217_3 hn217_4; replace p217 := eq_true p217; replace q217 := eq_true q217) | (go_at_call 152; (with_reducible refine (spec_l00Has.calls k _ _ ((rd_T72 l1 (rd l2 a3)).f4) ((rd_T139 l0 a3).f2) true _ ?side1 ?side2 A10.out).mono ?_); (case side1 => exact zH45); (case side2 => exact HC215_4.out); rintro e w' ⟨rfl, ⟨nd, rfl⟩⟩; (try first | exact ⟨rfl, _, World.drewN_drewN _ _ _⟩ | exact ⟨rfl, _, Eq.trans (World.drewN_drewN _ _ _) (congrArg (World.drewN _) (Nat.add_assoc _ _ _))⟩); have p219 : 0 ≤ (a3 : Int) := zO; have q219 : a3 < (l0.length : Int) := zO; obtain ⟨ad219, e219, hx219_0, hx219_1, hx219_2⟩ := at_T139 HR0.out a3 p219 q219; obtain rfl : ad217 = ad219 := (by injection e219); have hn219_0 : ad217.block ≠ gb216 := Nat.ne_of_lt (Nat.lt_of_lt_of_le zK233 GW216.out); have hn219_1 : ad217.block ≠ gb216 := Nat.ne_of_lt (Nat.lt_of_lt_of_le zK233 GW216.out); have hn219_2 : ad217.block ≠ gb216 := Nat.ne_of_lt (Nat.lt_of_lt_of_le zK233 GW216.out); have hn219_3 : ad217.block ≠ gb216 := Nat.ne_of_lt (Nat.lt_of_lt_of_le zK233 GW216.out); have hn219_4 : ad217.block ≠ gb216 := Nat.ne_of_lt (Nat.lt_of_lt_of_le zK233 GW216.out); replace hx219_0 := (HB.out.cell (za w _ hx219_0)).trans hx219_0; replace hx219_1 := (HB.out.cell (za w _ hx219_1)).trans hx219_1; replace hx219_2 := (HB.out.cell (za w _ hx219_2)).trans hx219_2; replace hx219_0 := (cell_far (p := ⟨gb216, 0, none⟩) zK194 (.string ((rd_T72 l1 (rd l2 a3)).f0))).trans hx219_0; replace hx219_1 := (cell_far (p := ⟨gb216, 0, none⟩) zK194 (.string ((rd_T72 l1 (rd l2 a3)).f0))).trans hx219_1; replace hx219_2 := (cell_far (p := ⟨gb216, 0, none⟩) zK194 (.string ((rd_T72 l1 (rd l2 a3)).f0))).trans hx219_2; replace hx219_0 := (cell_far (p := ⟨gb216, 1, none⟩) zK195 (.int .i64 ((rd_T72 l1 (rd l2 a3)).f1))).trans hx219_0; replace hx219_1 := (cell_far (p := ⟨gb216, 1, none⟩) zK195 (.int .i64 ((rd_T72 l1 (rd l2 a3)).f1))).trans hx219_1; replace hx219_2 := (cell_far (p := ⟨gb216, 1, none⟩) zK195 (.int .i64 ((rd_T72 l1 (rd l2 a3)).f1))).trans hx219_2; replace hx219_0 := (cell_far (p := ⟨gb216, 2, none⟩) zK196 (.int .i64 ((rd_T72 l1 (rd l2 a3)).f2))).trans hx219_0; replace hx219_1 := (cell_far (p := ⟨gb216, 2, none⟩) zK196 (.int .i64 ((rd_T72 l1 (rd l2 a3)).f2))).trans hx219_1; replace hx219_2 := (cell_far (p := ⟨gb216, 2, none⟩) zK196 (.int .i64 ((rd_T72 l1 (rd l2 a3)).f2))).trans hx219_2; replace hx219_0 := (cell_far (p := ⟨gb216, 3, none⟩) zK197 (.int .i64 ((rd_T72 l1 (rd l2 a3)).f3))).trans hx219_0; replace hx219_1 := (cell_far (p := ⟨gb216, 3, none⟩) zK197 (.int .i64 ((rd_T72 l1 (rd l2 a3)).f3))).trans hx219_1; replace hx219_2 := (cell_far (p := ⟨gb216, 3, none⟩) zK197 (.int .i64 ((rd_T72 l1 (rd l2 a3)).f3))).trans hx219_2; replace hx219_0 := (cell_far (p := ⟨gb216, 4, none⟩) zK198 (.slice A215_4 ((rd_T72 l1 (rd l2 a3)).f4).length c215_4)).trans hx219_0; replace hx219_1 := (cell_far (p := ⟨gb216, 4, none⟩) zK198 (.slice A215_4 ((rd_T72 l1 (rd l2 a3)).f4).length c215_4)).trans hx219_1; replace hx219_2 := (cell_far (p := ⟨gb216, 4, none⟩) zK198 (.slice A215_4 ((rd_T72 l1 (rd l2 a3)).f4).length c215_4)).trans hx219_2; (try have hy219_0 := fun (n_ : Nat) => (show (((((((w12.drewN n_).setCell ⟨gb216, 0, none⟩ (.string ((rd_T72 l1 (rd l2 a3)).f0))).setCell ⟨gb216, 1, none⟩ (.int .i64 ((rd_T72 l1 (rd l2 a3)).f1))).setCell ⟨gb216, 2, none⟩ (.int .i64 ((rd_T72 l1 (rd l2 a3)).f2))).setCell ⟨gb216, 3, none⟩ (.int .i64 ((rd_T72 l1 (rd l2 a3)).f3))).setCell ⟨gb216, 4, none⟩ (.slice A215_4 ((rd_T72 l1 (rd l2 a3)).f4).length c215_4))).cell? _ = some _ from hx219_0)); (try have hy219_1 := fun (n_ : Nat) => (show (((((((w12.drewN n_).setCell ⟨gb216, 0, none⟩ (.string ((rd_T72 l1 (rd l2 a3)).f0))).setCell ⟨gb216, 1, none⟩ (.int .i64 ((rd_T72 l1 (rd l2 a3)).f1))).setCell ⟨gb216, 2, none⟩ (.int .i64 ((rd_T72 l1 (rd l2 a3)).f2))).setCell ⟨gb216, 3, none⟩ (.int .i64 ((rd_T72 l1 (rd l2 a3)).f3))).setCell ⟨gb216, 4, none⟩ (.slice A215_4 ((rd_T72 l1 (rd l2 a3)).f4).length c215_4))).cell? _ = some _ from hx219_1)); (try have hy219_2 := fun (n_ : Nat) => (show (((((((w12.drewN n_).setCell ⟨gb216, 0, none⟩ (.string ((rd_T72 l1 (rd l2 a3)).f0))).setCell ⟨gb216, 1, none⟩ (.int .i64 ((rd_T72 l1 (rd l2 a3)).f1))).setCell ⟨gb216, 2, none⟩ (.int .i64 ((rd_T72 l1 (rd l2 a3)).f2))).setCell ⟨gb216, 3, none⟩ (.int .i64 ((rd_T72 l1 (rd l2 a3)).f3))).setCell ⟨gb216, 4, none⟩ (.slice A215_4 ((rd_T72 l1 (rd l2 a3)).f4).length c215_4))).cell? _ = some _ from hx219_2)); clear hn219_0 hn219_1; clear hn219_2 hn219_3 hn219_4; replace p219 := eq_true p219; replace q219 := eq_true q219; have p220 : 0 ≤ (a3 : Int) := zO; have q220 : a3 < (l0.length : Int) := zO; obtain ⟨ad220, e220, hx220_0, hx220_1, hx220_2⟩ := at_T139 HR0.out a3 p220 q220; obtain rfl : ad217 = ad220 := (by injection e220); have hn220_0 : ad217.block ≠ gb216 := Nat.ne_of_lt (Nat.lt_of_lt_of_le zK234 GW216.out); have hn220_1 : ad217.block ≠ gb216 := Nat.ne_of_lt (Nat.lt_of_lt_of_le zK234 GW216.out); have hn220_2 : ad217.block ≠ gb216 := Nat.ne_of_lt (Nat.lt_of_lt_of_le zK234 GW216.out); have hn220_3 : ad217.block ≠ gb216 := Nat.ne_of_lt (Nat.lt_of_lt_of_le zK234 GW216.out); have hn220_4 : ad217.block ≠ gb216 := Nat.ne_of_lt (Nat.lt_of_lt_of_le zK234 GW216.out); replace hx220_0 := (HB.out.cell (za w _ hx220_0)).trans hx220_0; replace hx220_1 := (HB.out.cell (za w _ hx220_1)).trans hx220_1; replace hx220_2 := (HB.out.cell (za w _ hx220_2)).trans hx220_2; replace hx220_0 := (cell_far (p := ⟨gb216, 0, none⟩) zK199 (.string ((rd_T72 l1 (rd l2 a3)).f0))).trans hx220_0; replace hx220_1 := (cell_far (p := ⟨gb216, 0, none⟩) zK199 (.string ((rd_T72 l1 (rd l2 a3)).f0))).trans hx220_1; replace hx220_2 := (cell_far (p := ⟨gb216, 0, none⟩) zK199 (.string ((rd_T72 l1 (rd l2 a3)).f0))).trans hx220_2; replace hx220_0 := (cell_far (p := ⟨gb216, 1, none⟩) zK200 (.int .i64 ((rd_T72 l1 (rd l2 a3)).f1))).trans hx220_0; replace hx220_1 := (cell_far (p := ⟨gb216, 1, none⟩) zK200 (.int .i64 ((rd_T72 l1 (rd l2 a3)).f1))).trans hx220_1; replace hx220_2 := (cell_far (p := ⟨gb216, 1, none⟩) zK200 (.int .i64 ((rd_T72 l1 (rd l2 a3)).f1))).trans hx220_2; replace hx220_0 := (cell_far (p := ⟨gb216, 2, none⟩) zK201 (.int .i64 ((rd_T72 l1 (rd l2 a3)).f2))).trans hx220_0; replace hx220_1 := (cell_far (p := ⟨gb216, 2, none⟩) zK201 (.int .i64 ((rd_T72 l1 (rd l2 a3)).f2))).trans hx220_1; replace hx220_2 := (cell_far (p := ⟨gb216, 2, none⟩) zK201 (.int .i64 ((rd_T72 l1 (rd l2 a3)).f2))).trans hx220_2; replace hx220_0 := (cell_far (p := ⟨gb216, 3, none⟩) zK202 (.int .i64 ((rd_T72 l1 (rd l2 a3)).f3))).trans hx220_0; replace hx220_1 := (cell_far (p := ⟨gb216, 3, none⟩) zK202 (.int .i64 ((rd_T72 l1 (rd l2 a3)).f3))).trans hx220_1; replace hx220_2 := (cell_far (p := ⟨gb216, 3, none⟩) zK202 (.int .i64 ((rd_T72 l1 (rd l2 a3)).f3))).trans hx220_2; replace hx220_0 := (cell_far (p := ⟨gb216, 4, none⟩) zK203 (.slice A215_4 ((rd_T72 l1 (rd l2 a3)).f4).length c215_4)).trans hx220_0; replace hx220_1 := (cell_far (p := ⟨gb216, 4, none⟩) zK203 (.slice A215_4 ((rd_T72 l1 (rd l2 a3)).f4).length c215_4)).trans hx220_1; replace hx220_2 := (cell_far (p := ⟨gb216, 4, none⟩) zK203 (.slice A215_4 ((rd_T72 l1 (rd l2 a3)).f4).length c215_4)).trans hx220_2; (try have hy220_0 := fun (n_ : Nat) => (show (((((((w12.drewN n_).setCell ⟨gb216, 0, none⟩ (.string ((rd_T72 l1 (rd l2 a3)).f0))).setCell ⟨gb216, 1, none⟩ (.int .i64 ((rd_T72 l1 (rd l2 a3)).f1))).setCell ⟨gb216, 2, none⟩ (.int .i64 ((rd_T72 l1 (rd l2 a3)).f2))).setCell ⟨gb216, 3, none⟩ (.int .i64 ((rd_T72 l1 (rd l2 a3)).f3))).setCell ⟨gb216, 4, none⟩ (.slice A215_4 ((rd_T72 l1 (rd l2 a3)).f4).length c215_4))).cell? _ = some _ from hx220_0)); (try have hy220_1 := fun (n_ : Nat) => (show (((((((w12.drewN n_).setCell ⟨gb216, 0, none⟩ (.string ((rd_T72 l1 (rd l2 a3)).f0))).setCell ⟨gb216, 1, none⟩ (.int .i64 ((rd_T72 l1 (rd l2 a3)).f1))).setCell ⟨gb216, 2, none⟩ (.int .i64 ((rd_T72 l1 (rd l2 a3)).f2))).setCell ⟨gb216, 3, none⟩ (.int .i64 ((rd_T72 l1 (rd l2 a3)).f3))).setCell ⟨gb216, 4, none⟩ (.slice A215_4 ((rd_T72 l1 (rd l2 a3)).f4).length c215_4))).cell? _ = some _ from hx220_1)); (try have hy220_2 := fun (n_ : Nat) => (show (((((((w12.drewN n_).setCell ⟨gb216, 0, none⟩ (.string ((rd_T72 l1 (rd l2 a3)).f0))).setCell ⟨gb216, 1, none⟩ (.int .i64 ((rd_T72 l1 (rd l2 a3)).f1))).setCell ⟨gb216, 2, none⟩ (.int .i64 ((rd_T72 l1 (rd l2 a3)).f2))).setCell ⟨gb216, 3, none⟩ (.int .i64 ((rd_T72 l1 (rd l2 a3)).f3))).setCell ⟨gb216, 4, none⟩ (.slice A215_4 ((rd_T72 l1 (rd l2 a3)).f4).length c215_4))).cell? _ = some _ from hx220_2)); clear hn220_0 hn220_1; clear hn220_2 hn220_3 hn220_4; replace p220 := eq_true p220; replace q220 := eq_true q220)))
 go_loopg [10, 11, 12] k (fun kq v10 v11 v12 w' => ∃ (x10_1 : Int) (x11_1 : Bool) (x12_1 : Int), v10 = .int .i64 x10_1 ∧ v11 = .bool x11_1 ∧ v12 = .int .i64 x12_1 ∧ Aside0 (spec_l21Code.l0 kq l0 l2 a3 x10_1 x11_1 x12_1 ((rd_T72 l1 (rd l2 a3)).f0) ((rd_T72 l1 (rd l2 a3)).f1) ((rd_T72 l1 (rd l2 a3)).f2) ((rd_T72 l1 (rd l2 a3)).f3) ((rd_T72 l1 (rd l2 a3)).f4) = some r) ∧ Aside0 (kq ≤ k) ∧ Aside0 (w'.heap[gb216]? = some (.cells #[.string ((rd_T72 l1 (rd l2 a3)).f0), .int .i64 ((rd_T72 l1 (rd l2 a3)).f1), .int .i64 ((rd_T72 l1 (rd l2 a3)).f2), .int .i64 ((rd_T72 l1 (rd l2 a3)).f3), (.slice A215_4 ((rd_T72 l1 (rd l2 a3)).f4).length c215_4)] 72 (0, 0))) ∧ Aside0 (Below w.heap.size w w'))
 case atStart => exact ⟨(wrap64 (((rd_T139 l0 a3).f1) - ((rd_T139 l0 a3).f0))), (false), (0), zG100, zG100, zG100, H', ⟨Nat.le_refl _⟩, ⟨by (with_reducible repeat (first | refine zf ?_ _ | refine zi ?_ | refine zg ?_ _)); refine zs (cs := #[.string ((rd_T72 l1 (rd l2 a3)).f0), .int .i64 ((rd_T72 l1 (rd l2 a3)).f1), .int .i64 ((rd_T72 l1 (rd l2 a3)).f2), .int .i64 ((rd_T72 l1 (rd l2 a3)).f3), .slice none 0 0]) ?_ 4 _ rfl; (with_reducible repeat (first | refine zf ?_ _ | refine zi ?_ | refine zg ?_ _)); refine zs (cs := #[.string ((rd_T72 l1 (rd l2 a3)).f0), .int .i64 ((rd_T72 l1 (rd l2 a3)).f1), .int .i64 ((rd_T72 l1 (rd l2 a3)).f2), .int .i64 0, .slice none 0 0]) ?_ 3 _ rfl; (with_reducible repeat (first | refine zf ?_ _ | refine zi ?_ | refine zg ?_ _)); refine zs (cs := #[.string ((rd_T72 l1 (rd l2 a3)).f0), .int .i64 ((rd_T72 l1 (rd l2 a3)).f1), .int .i64 0, .int .i64 0, .slice none 0 0]) ?_ 2 _ rfl; (with_reducible repeat (first | refine zf ?_ _ | refine zi ?_ | refine zg ?_ _)); refine zs (cs := #[.string ((rd_T72 l1 (rd l2 a3)).f0), .int .i64 0, .int .i64 0, .int .i64 0, .slice none 0 0]) ?_ 1 _ rfl; (with_reducible repeat (first | refine zf ?_ _ | refine zi ?_ | refine zg ?_ _)); refine zs (cs := #[.string (⟨#[]⟩ : ByteArray), .int .i64 0, .int .i64 0, .int .i64 0, .slice none 0 0]) ?_ 0 _ rfl; (with_reducible repeat (first | refine zf ?_ _ | refine zi ?_ | refine zg ?_ _)); exact BK216.out⟩, ⟨zH73⟩⟩
 case round =>
  clear H'
  try clear c1
  try clear c2
  try clear c5
  try clear c5b0
  try clear c6
  try clear c6b0
  try clear c7
  try clear c7b0
  try clear c8
  try clear c8b0
  try clear c9
  try clear c9b0
  try clear c11
  try clear hcz13_0
  try clear hcz13_1
  try clear hcz13_2
  try clear hcz13_3
  try clear hcz13_4
  try clear hfz13_0
  try clear hfz13_1
  try clear hfz13_2
  try clear hfz13_3
  try clear hfz13_4
  try clear hx214_0
  try clear hx215_0
  try clear hx215_1
  try clear hx215_2
  try clear hx215_3
  try clear hx215_4
  try clear hx217_0
  try clear hx217_1
  try clear hx217_2
  try clear hx219_0
  try clear hx219_1
  try clear hx219_2
  try clear hx220_0
  try clear hx220_1
  try clear hx220_2
  try clear p214
  try clear p215
  try clear p217
  try clear p219
  try clear p220
  try clear q214
  try clear q215
  try clear q217
  try clear q219
  try clear q220
  obtain ⟨x10_1, x11_1, x12_1, rfl, rfl, rfl, HA, HK1, BK216, HB⟩ := hrel
  cases gk with
  | zero => exact absurd HA.out (by simp [spec_l21Code.l0])
  | succ k1 =>
   have H := HA.out
   clear HA
   simp only [spec_l21Code.l0] at H
   by_cases c14 : x12_1 < a3
   rotate_left
   ·rw [if_neg c14] at H
    have c14b0 := decide_eq_false c14
    clear c14
    by_cases c24 : x11_1 = true
    ·subst c24
     have H1 : (some 12) = some r := by rw [if_pos rfl] at H; exact H
     clear H
     have H := H1
     clear H1
     obtain rfl := Option.some.inj H
     go_wp2
     repeat (go_quiet (fail); try go_wp2)
     go_ret
     exact zH30
    replace c24 := Bool.eq_false_iff.mpr c24
    subst c24
    have H1 : (if x10_1 > ((rd_T72 l1 (rd l2 a3)).f1) then (some 11) else (some 0)) = some r := by rw [if_neg (show ¬ (false = true) by decide)] at H; exact H
    clear H
    have H := H1
    clear H1
    by_cases c25 : x10_1 > ((rd_T72 l1 (rd l2 a3)).f1)
    rotate_left
    ·rw [if_neg c25] at H
     have c25b0 : decide (((rd_T72 l1 (rd l2 a3)).f1) < x10_1) = false := decide_eq_false c25
     clear c25
     obtain rfl := Option.some.inj H
     obtain ⟨hcz27_0, hcz27_1, hcz27_2, hcz27_3, hcz27_4, hfz27_0, hfz27_1, hfz27_2, hfz27_3, hfz27_4⟩ := zB5 BK216.out
     go_wp2
     repeat (go_quiet (fail); try go_wp2)
     go_ret
     exact zH30
    rw [if_pos c25] at H
    have c25b0 : decide (((rd_T72 l1 (rd l2 a3)).f1) < x10_1) = true := decide_eq_true c25
    clear c25
    obtain rfl := Option.some.inj H
    obtain ⟨hcz26_0, hcz26_1, hcz26_2, hcz26_3, hcz26_4, hfz26_0, hfz26_1, hfz26_2, hfz26_3, hfz26_4⟩ := zB5 BK216.out
    go_wp2
    repeat (go_quiet (fail); try go_wp2)
    go_ret
    exact zH30
   rw [if_pos c14] at H
   have c14b0 := decide_eq_true c14
   clear c14
   by_cases c15 : 0 ≤ x12_1
   rotate_left
   ·rw [if_neg c15] at H
    exact absurd H (by simp)
   rw [if_pos c15] at H
   have c15b0 := decide_eq_true c15
   clear c15
   by_cases c16 : x12_1 < (l2.length : Int)
   rotate_left
   ·rw [if_neg c16] at H
    exact absurd H (by simp)
   rw [if_pos c16] at H
   have c16b0 := decide_eq_true c16
   clear c16
   by_cases c17 : 0 ≤ a3
   rotate_left
   ·rw [if_neg c17] at H
    exact absurd H (by simp)
   rw [if_pos c17] at H
   have c17b0 := decide_eq_true c17
   clear c17
   by_cases c18 : a3 < (l2.length : Int)
   rotate_left
   ·rw [if_neg c18] at H
    exact absurd H (by simp)
   rw [if_pos c18] at H
   have c18b0 := decide_eq_true c18
   clear c18
   by_cases c19 : (rd l2 x12_1) = (rd l2 a3)
   rotate_left
   ·rw [if_neg c19] at H
    have c19b0 : ((rd l2 x12_1) == (rd l2 a3)) = false := beq_eq_false_iff_ne.mpr c19
    have c19b1 : ((rd l2 x12_1) != (rd l2 a3)) = true := bne_iff_ne.mpr c19
    have H' := zb H
    clear H
    have p221 : 0 ≤ (x12_1 : Int) := zO
    have q221 : x12_1 < (l2.length : Int) := zO
    obtain ⟨ad221, e221, hx221_0⟩ := zap HR2.out x12_1 p221 q221
    obtain rfl : ad214 = ad221 := (by injection e221)
    replace hx221_0 := (HB.out.cell (za w _ hx221_0)).trans hx221_0
    replace p221 := eq_true p221
    replace q221 := eq_true q221
    have p222 : 0 ≤ (a3 : Int) := zO
    have q222 : a3 < (l2.length : Int) := zO
    obtain ⟨ad222, e222, hx222_0⟩ := zap HR2.out a3 p222 q222
    obtain rfl : ad214 = ad222 := (by injection e222)
    replace hx222_0 := (HB.out.cell (za w _ hx222_0)).trans hx222_0
    replace p222 := eq_true p222
    replace q222 := eq_true q222
    go_wp2
    repeat (go_quiet (fail); try go_wp2)
    go_roundg k1
    case measure => have := HK1.out; omega
    case rel => exact ⟨(x10_1), (x11_1), (wrap64 (x12_1 + 1)), zG100, zG100, zG100, H', ⟨zH120⟩, ⟨zH94⟩, ⟨zH73⟩⟩
   rw [if_pos c19] at H
   have c19b0 : ((rd l2 x12_1) == (rd l2 a3)) = true := beq_iff_eq.mpr c19
   have c19b1 : ((rd l2 x12_1) != (rd l2 a3)) = false := bne_eq_false_iff_eq.mpr c19
   clear c19
   by_cases c20 : x12_1 < (l0.length : Int)
   rotate_left
   ·rw [if_neg c20] at H
    exact absurd H (by simp)
   rw [if_pos c20] at H
   have c20b0 := decide_eq_true c20
   clear c20
   by_cases c21 : x11_1 = true
   ·subst c21
    have H1 : (spec_l21Code.l0 k1 l0 l2 a3 (wrap64 (x10_1 + (wrap64 (((rd_T139 l0 x12_1).f1) - ((rd_T139 l0 x12_1).f0))))) true (wrap64 (x12_1 + 1)) ((rd_T72 l1 (rd l2 a3)).f0) ((rd_T72 l1 (rd l2 a3)).f1) ((rd_T72 l1 (rd l2 a3)).f2) ((rd_T72 l1 (rd l2 a3)).f3) ((rd_T72 l1 (rd l2 a3)).f4)) = some r := by rw [if_pos rfl] at H; exact H
    clear H
    have H := H1
    clear H1
    have H' := zb H
    clear H
    have p221 : 0 ≤ (x12_1 : Int) := zO
    have q221 : x12_1 < (l2.length : Int) := zO
    obtain ⟨ad221, e221, hx221_0⟩ := zap HR2.out x12_1 p221 q221
    obtain rfl : ad214 = ad221 := (by injection e221)
    replace hx221_0 := (HB.out.cell (za w _ hx221_0)).trans hx221_0
    replace p221 := eq_true p221
    replace q221 := eq_true q221
    have p222 : 0 ≤ (a3 : Int) := zO
    have q222 : a3 < (l2.length : Int) := zO
    obtain ⟨ad222, e222, hx222_0⟩ := zap HR2.out a3 p222 q222
    obtain rfl : ad214 = ad222 := (by injection e222)
    replace hx222_0 := (HB.out.cell (za w _ hx222_0)).trans hx222_0
    replace p222 := eq_true p222
    replace q222 := eq_true q222
    have p223 : 0 ≤ (x12_1 : Int) := zO
    have q223 : x12_1 < (l0.length : Int) := zO
    obtain ⟨ad223, e223, hx223_0, hx223_1, hx223_2⟩ := at_T139 HR0.out x12_1 p223 q223
    obtain rfl : ad217 = ad223 := (by injection e223)
    replace hx223_0 := (HB.out.cell (za w _ hx223_0)).trans hx223_0
    replace hx223_1 := (HB.out.cell (za w _ hx223_1)).trans hx223_1
    replace hx223_2 := (HB.out.cell (za w _ hx223_2)).trans hx223_2
    replace p223 := eq_true p223
    replace q223 := eq_true q223
    have p224 : 0 ≤ (x12_1 : Int) := zO
    have q224 : x12_1 < (l0.length : Int) := zO
    obtain ⟨ad224, e224, hx224_0, hx224_1, hx224_2⟩ := at_T139 HR0.out x12_1 p224 q224
    obtain rfl : ad217 = ad224 := (by injection e224)
    replace hx224_0 := (HB.out.cell (za w _ hx224_0)).trans hx224_0
    replace hx224_1 := (HB.out.cell (za w _ hx224_1)).trans hx224_1
    replace hx224_2 := (HB.out.cell (za w _ hx224_2)).trans hx224_2
    replace p224 := eq_true p224
    replace q224 := eq_true q224
    go_wp2
    repeat (go_quiet (fail); try go_wp2)
    go_roundg k1
    case measure => have := HK1.out; omega
    case rel => exact ⟨(wrap64 (x10_1 + (wrap64 (((rd_T139 l0 x12_1).f1) - ((rd_T139 l0 x12_1).f0))))), (true), (wrap64 (x12_1 + 1)), zG100, zG100, zG100, H', ⟨zH120⟩, ⟨zH94⟩, ⟨zH73⟩⟩
   replace c21 := Bool.eq_false_iff.mpr c21
   subst c21
   have H1 : (if a3 < (l0.length : Int) then (spec_l21Code.l0 k1 l0 l2 a3 (wrap64 (x10_1 + (wrap64 (((rd_T139 l0 x12_1).f1) - ((rd_T139 l0 x12_1).f0))))) (decide (((rd_T139 l0 a3).f0) < (wrap64 (((rd_T139 l0 x12_1).f1) + ((rd_T72 l1 (rd l2 a3)).f2))))) (wrap64 (x12_1 + 1)) ((rd_T72 l1 (rd l2 a3)).f0) ((rd_T72 l1 (rd l2 a3)).f1) ((rd_T72 l1 (rd l2 a3)).f2) ((rd_T72 l1 (rd l2 a3)).f3) ((rd_T72 l1 (rd l2 a3)).f4)) else (none)) = some r := by rw [if_neg (show ¬ (false = true) by decide)] at H; exact H
   clear H
   have H := H1
   clear H1
   by_cases c22 : a3 < (l0.length : Int)
   rotate_left
   ·rw [if_neg c22] at H
    exact absurd H (by simp)
   rw [if_pos c22] at H
   have c22b0 := decide_eq_true c22
   clear c22
   have H' := zb H
   clear H
   have p221 : 0 ≤ (x12_1 : Int) := zO
   have q221 : x12_1 < (l2.length : Int) := zO
   obtain ⟨ad221, e221, hx221_0⟩ := zap HR2.out x12_1 p221 q221
   obtain rfl : ad214 = ad221 := (by injection e221)
   replace hx221_0 := (HB.out.cell (za w _ hx221_0)).trans hx221_0
   replace p221 := eq_true p221
   replace q221 := eq_true q221
   have p222 : 0 ≤ (a3 : Int) := zO
   have q222 : a3 < (l2.length : Int) := zO
   obtain ⟨ad222, e222, hx222_0⟩ := zap HR2.out a3 p222 q222
   obtain rfl : ad214 = ad222 := (by injection e222)
   replace hx222_0 := (HB.out.cell (za w _ hx222_0)).trans hx222_0
   replace p222 := eq_true p222
   replace q222 := eq_true q222
   have p223 : 0 ≤ (x12_1 : Int) := zO
   have q223 : x12_1 < (l0.length : Int) := zO
   obtain ⟨ad223, e223, hx223_0, hx223_1, hx223_2⟩ := at_T139 HR0.out x12_1 p223 q223
   obtain rfl : ad217 = ad223 := (by injection e223)
   replace hx223_0 := (HB.out.cell (za w _ hx223_0)).trans hx223_0
   replace hx223_1 := (HB.out.cell (za w _ hx223_1)).trans hx223_1
   replace hx223_2 := (HB.out.cell (za w _ hx223_2)).trans hx223_2
   replace p223 := eq_true p223
   replace q223 := eq_true q223
   have p224 : 0 ≤ (x12_1 : Int) := zO
   have q224 : x12_1 < (l0.length : Int) := zO
   obtain ⟨ad224, e224, hx224_0, hx224_1, hx224_2⟩ := at_T139 HR0.out x12_1 p224 q224
   obtain rfl : ad217 = ad224 := (by injection e224)
   replace hx224_0 := (HB.out.cell (za w _ hx224_0)).trans hx224_0
   replace hx224_1 := (HB.out.cell (za w _ hx224_1)).trans hx224_1
   replace hx224_2 := (HB.out.cell (za w _ hx224_2)).trans hx224_2
   replace p224 := eq_true p224
   replace q224 := eq_true q224
   have p225 : 0 ≤ (a3 : Int) := zO
   have q225 : a3 < (l0.length : Int) := zO
   obtain ⟨ad225, e225, hx225_0, hx225_1, hx225_2⟩ := at_T139 HR0.out a3 p225 q225
   obtain rfl : ad217 = ad225 := (by injection e225)
   replace hx225_0 := (HB.out.cell (za w _ hx225_0)).trans hx225_0
   replace hx225_1 := (HB.out.cell (za w _ hx225_1)).trans hx225_1
   replace hx225_2 := (HB.out.cell (za w _ hx225_2)).trans hx225_2
   replace p225 := eq_true p225
   replace q225 := eq_true q225
   have p226 : 0 ≤ (x12_1 : Int) := zO
   have q226 : x12_1 < (l0.length : Int) := zO
   obtain ⟨ad226, e226, hx226_0, hx226_1, hx226_2⟩ := at_T139 HR0.out x12_1 p226 q226
   obtain rfl : ad217 = ad226 := (by injection e226)
   replace hx226_0 := (HB.out.cell (za w _ hx226_0)).trans hx226_0
   replace hx226_1 := (HB.out.cell (za w _ hx226_1)).trans hx226_1
   replace hx226_2 := (HB.out.cell (za w _ hx226_2)).trans hx226_2
   replace p226 := eq_true p226
   replace q226 := eq_true q226
   obtain ⟨hcz23_0, hcz23_1, hcz23_2, hcz23_3, hcz23_4, hfz23_0, hfz23_1, hfz23_2, hfz23_3, hfz23_4⟩ := zB5 BK216.out
   go_wp2
   repeat (go_quiet (fail); try go_wp2)
   go_roundg k1
   case measure => have := HK1.out; omega
   case rel => exact ⟨(wrap64 (x10_1 + (wrap64 (((rd_T139 l0 x12_1).f1) - ((rd_T139 l0 x12_1).f0))))), (decide (((rd_T139 l0 a3).f0) < (wrap64 (((rd_T139 l0 x12_1).f1) + ((rd_T72 l1 (rd l2 a3)).f2))))), (wrap64 (x12_1 + 1)), zG100, zG100, zG100, H', ⟨zH120⟩, ⟨zH94⟩, ⟨zH73⟩⟩
end Go.Proofs.Ytojncbpeeboooaa.U
