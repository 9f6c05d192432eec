-- squeezed
-- made by pp.py (wip/tools) out of the translation; Lean checks it
import Derived.Test.YtoibmbkmpadmnaaG0
import Derived.Test.YtoibmbkmpadmnaaG12
namespace Go.Proofs.Ytoibmbkmpadmnaa.G
open Go.RowKit Go.Proofs.YtoibmbkmpadmnaaW.PrintWords Go.Proofs.YtoibmbkmpadmnaaW.PrintLast Go.Proofs.YtoibmbkmpadmnaaW.PrintMore
attribute [local go_sem] max2_int min2_int max_two min_two max_three min_three max_four min_four   -- for this text's walks alone
set_option linter.unusedVariables false
set_option linter.unusedSimpArgs false

abbrev b13A0 := zM 10 0
abbrev b13A1 := zM 10 1
abbrev b13A2 := zM 10 3
abbrev b13A3 := zM 10 7
abbrev b13A4 := zM 10 23
abbrev b13A5 := zM 10 55
abbrev b13A6 := zM 10 119
abbrev b13A7 := zM 10 127
abbrev b13A8 := zM 10 255
abbrev b13A9 := zM 10 511
abbrev b13A10 := zM 10 1023
abbrev q13a := @blk_cell
/-! ### laws_eqIntS: function 34 -/
def laws_eqIntS.l0 : Nat → List Int → List Int → Int → Option (Bool)
 | 0, _, _, _ => none
 | k + 1, x0, x1, x5 => if x5 < (x0.length : Int) then (if 0 ≤ x5 then (if x5 < (x1.length : Int) then (if (rd x0 x5) = (rd x1 x5) then (laws_eqIntS.l0 k x0 x1 (wrap64 (x5 + 1))) else (some false)) else (none)) else (none)) else (some true)
def laws_eqIntS.f (k : Nat) (l0 : List Int) (l1 : List Int) : Option (Bool) := if (l0.length : Int) = (l1.length : Int) then (laws_eqIntS.l0 k l0 l1 0) else (some false)
theorem laws_eqIntS.mono_l : ∀ k, (∀ y0 y1 y2, LeO (laws_eqIntS.l0 k y0 y1 y2) (laws_eqIntS.l0 (k + 1) y0 y1 y2))
 | 0 => fun _ _ _ r h => by simp [laws_eqIntS.l0] at h
 | k + 1 => by
  have ih0 := laws_eqIntS.mono_l k
  ·intro y0 y1 y2
   unfold laws_eqIntS.l0
   repeat' first
   | (with_reducible exact ih0 _ _ _)
   | (with_reducible exact LeO.refl _)
   | (with_reducible exact LeO.none _)
   | (with_reducible refine LeO.ite ?_ ?_)
   | (with_reducible refine LeO.bind ?_ (fun _ => ?_))
   | exact ih0 _ _ _
   | exact LeO.none _
   | refine LeO.ite ?_ ?_
   | refine LeO.bind ?_ (fun _ => ?_)
theorem laws_eqIntS.mono : ∀ a0 a1 k, LeO (laws_eqIntS.f k a0 a1) (laws_eqIntS.f (k + 1) a0 a1) := by
 intro a0 a1 k
 have ih0 := laws_eqIntS.mono_l k
 unfold laws_eqIntS.f
 repeat' first
   | (with_reducible exact ih0 _ _ _)
   | (with_reducible exact LeO.refl _)
   | (with_reducible exact LeO.none _)
   | (with_reducible refine LeO.ite ?_ ?_)
   | (with_reducible refine LeO.bind ?_ (fun _ => ?_))
   | exact ih0 _ _ _
   | exact LeO.none _
   | refine LeO.ite ?_ ?_
   | refine LeO.bind ?_ (fun _ => ?_)
set_option maxHeartbeats 64000000 in
set_option maxRecDepth 100000 in
theorem laws_eqIntS.calls (k : Nat) (A0 : Option Addr) (c0 : Nat) (l0 : List Int) (A1 : Option Addr) (c1 : Nat) (l1 : List Int) (r : Bool) (w : World) (hr0 : Kd.C (Kd.int .i64) w A0 l0.length l0) (hc0 : l0.length ≤ c0) (hr1 : Kd.C (Kd.int .i64) w A1 l1.length l1) (hc1 : l1.length ≤ c1) (h : laws_eqIntS.f k l0 l1 = some r) :
  Calls Try.prog 34 #[.slice A0 l0.length c0, .slice A1 l1.length c1] w fun e w' => e = .returned (.bool r) ∧ Drawn0 w w' := by
 obtain ⟨HR0, HC0, HR1, HC1⟩ := zD4 hr0 hc0 hr1 hc1
 clear hr0 hc0 hr1 hc1
 have H : (if (l0.length : Int) = (l1.length : Int) then (laws_eqIntS.l0 k l0 l1 0) else (some false)) = some r := h
 clear h
 by_cases c3 : (l0.length : Int) = (l1.length : Int)
 rotate_left
 ·rw [if_neg c3] at H
  have c3b0 : ((l0.length : Int) == (l1.length : Int)) = false := beq_eq_false_iff_ne.mpr c3
  have c3b1 : ((l0.length : Int) != (l1.length : Int)) = true := bne_iff_ne.mpr c3
  have c3b2 : (l0.length == l1.length) = false := by first | simpa using c3 | (simp at c3 ⊢; omega)
  obtain rfl := Option.some.inj H
  go_enter Try.func34, Try.ntmps34
  go_wp2
  repeat (go_quiet (fail); try go_wp2)
  go_ret
  exact zH67

 rw [if_pos c3] at H
 have c3b0 : ((l0.length : Int) == (l1.length : Int)) = true := beq_iff_eq.mpr c3
 have c3b1 : ((l0.length : Int) != (l1.length : Int)) = false := bne_eq_false_iff_eq.mpr c3
 have c3b2 : (l0.length == l1.length) = true := by first | simpa using c3 | (simp at c3 ⊢; omega)
 clear c3
 have H' := zb H
 clear H
 go_enter Try.func34, Try.ntmps34
 go_wp2
 repeat (go_quiet (fail); try go_wp2)
 go_loopg [5] k (fun kq v5 w' => ∃ (x5_1 : Int), v5 = .int .i64 x5_1 ∧ Aside0 (laws_eqIntS.l0 kq l0 l1 x5_1 = some r) ∧ Aside0 (kq ≤ k) ∧ Drawn0 w w')
 case atStart => exact ⟨(0), zG74, H', ⟨Nat.le_refl _⟩, zH97⟩
 case round =>
  clear H'
  try clear c1
  try clear c3
  try clear c3b0
  try clear c3b1
  try clear c3b2
  obtain ⟨x5_1, rfl, HA, HK1, ⟨m1, rfl⟩⟩ := hrel
  cases gk with
  | zero => exact absurd HA.out (by simp [laws_eqIntS.l0])
  | succ k1 =>
   have H := HA.out
   clear HA
   simp only [laws_eqIntS.l0] at H
   by_cases c4 : x5_1 < (l0.length : Int)
   rotate_left
   ·rw [if_neg c4] at H
    have c4b0 := decide_eq_false c4
    clear c4
    obtain rfl := Option.some.inj H
    go_wp2
    repeat (go_quiet (fail); try go_wp2)
    go_ret
    exact zH67
   rw [if_pos c4] at H
   have c4b0 := decide_eq_true c4
   clear c4
   by_cases c5 : 0 ≤ x5_1
   rotate_left
   ·rw [if_neg c5] at H
    exact absurd H (by simp)
   rw [if_pos c5] at H
   have c5b0 := decide_eq_true c5
   clear c5
   by_cases c6 : x5_1 < (l1.length : Int)
   rotate_left
   ·rw [if_neg c6] at H
    exact absurd H (by simp)
   rw [if_pos c6] at H
   have c6b0 := decide_eq_true c6
   clear c6
   by_cases c7 : (rd l0 x5_1) = (rd l1 x5_1)
   rotate_left
   ·rw [if_neg c7] at H
    have c7b0 : ((rd l0 x5_1) == (rd l1 x5_1)) = false := beq_eq_false_iff_ne.mpr c7
    have c7b1 : ((rd l0 x5_1) != (rd l1 x5_1)) = true := bne_iff_ne.mpr c7
    obtain rfl := Option.some.inj H
    have p214 : 0 ≤ (x5_1 : Int) := zO
    have q214 : x5_1 < (l0.length : Int) := zO
    obtain ⟨ad214, e214, hx214_0⟩ := zba HR0.out x5_1 p214 q214
    cases e214
    replace p214 := eq_true p214
    replace q214 := eq_true q214
    have p215 : 0 ≤ (x5_1 : Int) := zO
    have q215 : x5_1 < (l1.length : Int) := zO
    obtain ⟨ad215, e215, hx215_0⟩ := zba HR1.out x5_1 p215 q215
    cases e215
    replace p215 := eq_true p215
    replace q215 := eq_true q215
    go_wp2
    repeat (go_quiet (fail); try go_wp2)
    go_ret
    exact zH67
   rw [if_pos c7] at H
   have c7b0 : ((rd l0 x5_1) == (rd l1 x5_1)) = true := beq_iff_eq.mpr c7
   have c7b1 : ((rd l0 x5_1) != (rd l1 x5_1)) = false := bne_eq_false_iff_eq.mpr c7
   clear c7
   have H' := zb H
   clear H
   have p214 : 0 ≤ (x5_1 : Int) := zO
   have q214 : x5_1 < (l0.length : Int) := zO
   obtain ⟨ad214, e214, hx214_0⟩ := zba HR0.out x5_1 p214 q214
   cases e214
   replace p214 := eq_true p214
   replace q214 := eq_true q214
   have p215 : 0 ≤ (x5_1 : Int) := zO
   have q215 : x5_1 < (l1.length : Int) := zO
   obtain ⟨ad215, e215, hx215_0⟩ := zba HR1.out x5_1 p215 q215
   cases e215
   replace p215 := eq_true p215
   replace q215 := eq_true q215
   go_wp2
   repeat (go_quiet (fail); try go_wp2)
   go_roundg k1
   case measure => have := HK1.out; omega
   case rel => exact ⟨(wrap64 (x5_1 + 1)), zG74, H', ⟨zH106⟩, zH97⟩
/-! ### laws_eqLedger: function 13 -/
def laws_eqLedger.f (k : Nat) (l0_0 : List (S39)) (l0_1 : List ByteArray) (l0_2 : List Int) (l1_0 : List (S39)) (l1_1 : List ByteArray) (l1_2 : List Int) : Option (Bool) := (laws_eqCardS.f k l0_0 l1_0).bind fun t218 => (if t218 = true then ((laws_eqStringS.f k l0_1 l1_1).bind fun t219 => (if t219 = true then ((laws_eqIntS.f k l0_2 l1_2).bind fun t220 => (if t220 = true then (some true) else (some false))) else (some false))) else (some false))
theorem laws_eqLedger.mono : ∀ a0 a1 a2 a3 a4 a5 k, LeO (laws_eqLedger.f k a0 a1 a2 a3 a4 a5) (laws_eqLedger.f (k + 1) a0 a1 a2 a3 a4 a5) := by
 intro a0 a1 a2 a3 a4 a5 k
 unfold laws_eqLedger.f
 repeat' first
   | (with_reducible exact laws_eqCardS.mono _ _ _)
   | (with_reducible exact laws_eqIntS.mono _ _ _)
   | (with_reducible exact laws_eqStringS.mono _ _ _)
   | (with_reducible exact LeO.refl _)
   | (with_reducible exact LeO.none _)
   | (with_reducible refine LeO.ite ?_ ?_)
   | (with_reducible refine LeO.bind ?_ (fun _ => ?_))
   | exact laws_eqCardS.mono _ _ _
   | exact laws_eqIntS.mono _ _ _
   | exact laws_eqStringS.mono _ _ _
   | exact LeO.none _
   | refine LeO.ite ?_ ?_
   | refine LeO.bind ?_ (fun _ => ?_)
set_option maxHeartbeats 64000000 in
set_option maxRecDepth 100000 in
theorem laws_eqLedger.calls (k : Nat) (A0_0 : Option Addr) (c0_0 : Nat) (l0_0 : List (S39)) (A0_1 : Option Addr) (c0_1 : Nat) (l0_1 : List ByteArray) (A0_2 : Option Addr) (c0_2 : Nat) (l0_2 : List Int) (A1_0 : Option Addr) (c1_0 : Nat) (l1_0 : List (S39)) (A1_1 : Option Addr) (c1_1 : Nat) (l1_1 : List ByteArray) (A1_2 : Option Addr) (c1_2 : Nat) (l1_2 : List Int) (r : Bool) (w : World) (hr0_0 : Kd.C k39 w A0_0 l0_0.length l0_0) (hc0_0 : l0_0.length ≤ c0_0) (hr0_1 : Kd.C Kd.string w A0_1 l0_1.length l0_1) (hc0_1 : l0_1.length ≤ c0_1) (hr0_2 : Kd.C (Kd.int .i64) w A0_2 l0_2.length l0_2) (hc0_2 : l0_2.length ≤ c0_2) (hr1_0 : Kd.C k39 w A1_0 l1_0.length l1_0) (hc1_0 : l1_0.length ≤ c1_0) (hr1_1 : Kd.C Kd.string w A1_1 l1_1.length l1_1) (hc1_1 : l1_1.length ≤ c1_1) (hr1_2 : Kd.C (Kd.int .i64) w A1_2 l1_2.length l1_2) (hc1_2 : l1_2.length ≤ c1_2) (h : laws_eqLedger.f k l0_0 l0_1 l0_2 l1_0 l1_1 l1_2 = some r) :
  Calls Try.prog 13 #[.agg #[.slice A0_0 l0_0.length c0_0, .slice A0_1 l0_1.length c0_1, .slice A0_2 l0_2.length c0_2], .agg #[.slice A1_0 l1_0.length c1_0, .slice A1_1 l1_1.length c1_1, .slice A1_2 l1_2.length c1_2]] w fun e w' => e = .returned (.bool r) ∧ Below w.heap.size w w' := by
 have hu31 := Try.underlying31
 obtain ⟨HR0_0, HC0_0, HR0_1, HC0_1, HR0_2, HC0_2, HR1_0, HC1_0, HR1_1, HC1_1, HR1_2, HC1_2, HB⟩ := zD13 hr0_0 hc0_0 hr0_1 hc0_1 hr0_2 hc0_2 hr1_0 hc1_0 hr1_1 hc1_1 hr1_2 hc1_2 (Below.refl w.heap.size w)
 clear hr0_0 hc0_0 hr0_1 hc0_1 hr0_2 hc0_2 hr1_0 hc1_0 hr1_1 hc1_1 hr1_2 hc1_2
 have H : ((laws_eqCardS.f k l0_0 l1_0).bind fun t218 => (if t218 = true then ((laws_eqStringS.f k l0_1 l1_1).bind fun t219 => (if t219 = true then ((laws_eqIntS.f k l0_2 l1_2).bind fun t220 => (if t220 = true then (some true) else (some false))) else (some false))) else (some false))) = some r := h
 clear h
 replace H := Option.bind_eq_some_iff.mp H
 obtain ⟨t218, A30, H⟩ := H
 replace H : (if t218 = true then ((laws_eqStringS.f k l0_1 l1_1).bind fun t219 => (if t219 = true then ((laws_eqIntS.f k l0_2 l1_2).bind fun t220 => (if t220 = true then (some true) else (some false))) else (some false))) else (some false)) = some r := H
 have A3 := zb A30
 clear A30
 by_cases c4 : t218 = true
 rotate_left
 ·replace c4 := Bool.eq_false_iff.mpr c4
  subst c4
  have H1 : (some false) = some r := by rw [if_neg (show ¬ (false = true) by decide)] at H; exact H
  clear H
  have H := H1
  clear H1
  obtain rfl := Option.some.inj H
  go_enter Try.func13, Try.ntmps13
  go_wp2_with (first | ((with_reducible refine gate_dst (N := 2) rfl ?_); refine box_event ?hg (N := 2) ?hd (cs := #[.slice A0_0 l0_0.length c0_0, .slice A0_1 l0_1.length c0_1, .slice A0_2 l0_2.length c0_2]) (t := 31) ?hr ?_; (case hd => rfl); (case hg => rfl); (case hr => exact zH101); intro gb216 hg w33 hbox hb; have n_ := zA_ (zb (zr zG61 hb)) (zA_ (zb (hbox)) (zA_ (zN1 w.heap.size hg (zq zG61)) (zN1 w.heap.size hg (zq zG61)))); clear HB; obtain ⟨HB, BK216, GW216, GE216⟩ := n_; clear hb hbox hg) | ((with_reducible refine gate_dst (N := 3) rfl ?_); refine box_event ?hg (N := 3) ?hd (cs := #[.slice A1_0 l1_0.length c1_0, .slice A1_1 l1_1.length c1_1, .slice A1_2 l1_2.length c1_2]) (t := 31) ?hr ?_; (case hd => rfl); (case hg => rfl); (case hr => exact zH101); intro gb217 hg w34 hbox hb; have n_ := zA_ (zb (zt (g := gb216) (o := .cells #[.slice A0_0 l0_0.length c0_0, .slice A0_1 l0_1.length c0_1, .slice A0_2 l0_2.length c0_2] 31 (0, 0)) zG65 hb)) (zA_ (zb (zr zG57 hb)) (zA_ (zb (hbox)) (zA_ (zN1 w.heap.size hg (zq zG57)) (zA_ (zN1 w.heap.size hg (zq zG57)) (zN2 hg (zaa (g := gb216) (o := .cells #[.slice A0_0 l0_0.length c0_0, .slice A0_1 l0_1.length c0_1, .slice A0_2 l0_2.length c0_2] 31 (0, 0)) zG65)))))); clear BK216 HB; obtain ⟨BK216, HB, BK217, GW217, GE217, NB216_217, NB217_216⟩ := n_; clear hb hbox hg; have hnb35 := NB216_217.out; have hnc35 := NB217_216.out; have hcz36_0 : w34.cell? ⟨gb216, 0, none⟩ = some (.slice A0_0 l0_0.length c0_0) := (q13a BK216.out 0).trans rfl; have hcz36_1 : w34.cell? ⟨gb216, 1, none⟩ = some (.slice A0_1 l0_1.length c0_1) := (q13a BK216.out 1).trans rfl; have hcz36_2 : w34.cell? ⟨gb216, 2, none⟩ = some (.slice A0_2 l0_2.length c0_2) := (q13a BK216.out 2).trans rfl; have hfz36_0 := zd BK216.out 0; have hfz36_1 := zd BK216.out 1; have hfz36_2 := zd BK216.out 2; have hcz37_0 : w34.cell? ⟨gb217, 0, none⟩ = some (.slice A1_0 l1_0.length c1_0) := (q13a BK217.out 0).trans rfl; have hcz37_1 : w34.cell? ⟨gb217, 1, none⟩ = some (.slice A1_1 l1_1.length c1_1) := (q13a BK217.out 1).trans rfl; have hcz37_2 : w34.cell? ⟨gb217, 2, none⟩ = some (.slice A1_2 l1_2.length c1_2) := (q13a BK217.out 2).trans rfl; have hfz37_0 := zd BK217.out 0; have hfz37_1 := zd BK217.out 1; have hfz37_2 := zd BK217.out 2) | ((with_reducible refine gate_callee (f := 32) rfl ?_); refine goesL_ (some 9) rfl rfl Try.func32 zG75 rfl #[.slice A0_0 l0_0.length c0_0, .slice A1_0 l1_0.length c1_0] rfl zG55 ?_; (with_reducible refine (laws_eqCardS.calls k _ _ l0_0 _ _ l1_0 false _ ?side1 ?side2 ?side3 ?side4 A3.out).mono ?_); (case side1 => exact zH56); (case side2 => exact HC0_0.out); (case side3 => exact zH54); (case side4 => exact HC1_0.out); rintro e w38 ⟨rfl, hb⟩; refine ⟨_, rfl, ?_⟩; have n_ := zA_ (zb (zt (g := gb216) (o := .cells #[.slice A0_0 l0_0.length c0_0, .slice A0_1 l0_1.length c0_1, .slice A0_2 l0_2.length c0_2] 31 (0, 0)) zG65 hb)) (zA_ (zb (zt (g := gb217) (o := .cells #[.slice A1_0 l1_0.length c1_0, .slice A1_1 l1_1.length c1_1, .slice A1_2 l1_2.length c1_2] 31 (0, 0)) zK155 hb)) (zb (zr zK142 hb))); clear BK216 BK217 HB; obtain ⟨BK216, BK217, HB⟩ := n_; (try clear hb)))
  go_ret
  exact zH21

 subst c4
 have H1 : ((laws_eqStringS.f k l0_1 l1_1).bind fun t219 => (if t219 = true then ((laws_eqIntS.f k l0_2 l1_2).bind fun t220 => (if t220 = true then (some true) else (some false))) else (some false))) = some r := by rw [if_pos rfl] at H; exact H
 clear H
 have H := H1
 clear H1
 replace H := Option.bind_eq_some_iff.mp H
 obtain ⟨t219, A50, H⟩ := H
 replace H : (if t219 = true then ((laws_eqIntS.f k l0_2 l1_2).bind fun t220 => (if t220 = true then (some true) else (some false))) else (some false)) = some r := H
 have A5 := zb A50
 clear A50
 by_cases c6 : t219 = true
 rotate_left
 ·replace c6 := Bool.eq_false_iff.mpr c6
  subst c6
  have H1 : (some false) = some r := by rw [if_neg (show ¬ (false = true) by decide)] at H; exact H
  clear H
  have H := H1
  clear H1
  obtain rfl := Option.some.inj H
  go_enter Try.func13, Try.ntmps13
  go_wp2_with (first | ((with_reducible refine gate_dst (N := 2) rfl ?_); refine box_event ?hg (N := 2) ?hd (cs := #[.slice A0_0 l0_0.length c0_0, .slice A0_1 l0_1.length c0_1, .slice A0_2 l0_2.length c0_2]) (t := 31) ?hr ?_; (case hd => rfl); (case hg => rfl); (case hr => exact zH101); intro gb216 hg w25 hbox hb; have n_ := zA_ (zb (zr zG61 hb)) (zA_ (zb (hbox)) (zA_ (zN1 w.heap.size hg (zq zG61)) (zN1 w.heap.size hg (zq zG61)))); clear HB; obtain ⟨HB, BK216, GW216, GE216⟩ := n_; clear hb hbox hg) | ((with_reducible refine gate_dst (N := 3) rfl ?_); refine box_event ?hg (N := 3) ?hd (cs := #[.slice A1_0 l1_0.length c1_0, .slice A1_1 l1_1.length c1_1, .slice A1_2 l1_2.length c1_2]) (t := 31) ?hr ?_; (case hd => rfl); (case hg => rfl); (case hr => exact zH101); intro gb217 hg w26 hbox hb; have n_ := zA_ (zb (zt (g := gb216) (o := .cells #[.slice A0_0 l0_0.length c0_0, .slice A0_1 l0_1.length c0_1, .slice A0_2 l0_2.length c0_2] 31 (0, 0)) zG65 hb)) (zA_ (zb (zr zG57 hb)) (zA_ (zb (hbox)) (zA_ (zN1 w.heap.size hg (zq zG57)) (zA_ (zN1 w.heap.size hg (zq zG57)) (zN2 hg (zaa (g := gb216) (o := .cells #[.slice A0_0 l0_0.length c0_0, .slice A0_1 l0_1.length c0_1, .slice A0_2 l0_2.length c0_2] 31 (0, 0)) zG65)))))); clear BK216 HB; obtain ⟨BK216, HB, BK217, GW217, GE217, NB216_217, NB217_216⟩ := n_; clear hb hbox hg; have hnb27 := NB216_217.out; have hnc27 := NB217_216.out; have hcz28_0 : w26.cell? ⟨gb216, 0, none⟩ = some (.slice A0_0 l0_0.length c0_0) := (q13a BK216.out 0).trans rfl; have hcz28_1 : w26.cell? ⟨gb216, 1, none⟩ = some (.slice A0_1 l0_1.length c0_1) := (q13a BK216.out 1).trans rfl; have hcz28_2 : w26.cell? ⟨gb216, 2, none⟩ = some (.slice A0_2 l0_2.length c0_2) := (q13a BK216.out 2).trans rfl; have hfz28_0 := zd BK216.out 0; have hfz28_1 := zd BK216.out 1; have hfz28_2 := zd BK216.out 2; have hcz29_0 : w26.cell? ⟨gb217, 0, none⟩ = some (.slice A1_0 l1_0.length c1_0) := (q13a BK217.out 0).trans rfl; have hcz29_1 : w26.cell? ⟨gb217, 1, none⟩ = some (.slice A1_1 l1_1.length c1_1) := (q13a BK217.out 1).trans rfl; have hcz29_2 : w26.cell? ⟨gb217, 2, none⟩ = some (.slice A1_2 l1_2.length c1_2) := (q13a BK217.out 2).trans rfl; have hfz29_0 := zd BK217.out 0; have hfz29_1 := zd BK217.out 1; have hfz29_2 := zd BK217.out 2) | ((with_reducible refine gate_callee (f := 32) rfl ?_); refine goesL_ (some 9) rfl rfl Try.func32 zG75 rfl #[.slice A0_0 l0_0.length c0_0, .slice A1_0 l1_0.length c1_0] rfl zG55 ?_; (with_reducible refine (laws_eqCardS.calls k _ _ l0_0 _ _ l1_0 true _ ?side1 ?side2 ?side3 ?side4 A3.out).mono ?_); (case side1 => exact zH56); (case side2 => exact HC0_0.out); (case side3 => exact zH54); (case side4 => exact HC1_0.out); rintro e w30 ⟨rfl, hb⟩; refine ⟨_, rfl, ?_⟩; have n_ := zA_ (zb (zt (g := gb216) (o := .cells #[.slice A0_0 l0_0.length c0_0, .slice A0_1 l0_1.length c0_1, .slice A0_2 l0_2.length c0_2] 31 (0, 0)) zG65 hb)) (zA_ (zb (zt (g := gb217) (o := .cells #[.slice A1_0 l1_0.length c1_0, .slice A1_1 l1_1.length c1_1, .slice A1_2 l1_2.length c1_2] 31 (0, 0)) zK155 hb)) (zb (zr zK142 hb))); clear BK216 BK217 HB; obtain ⟨BK216, BK217, HB⟩ := n_; (try clear hb); have hcz31_0 : w30.cell? ⟨gb216, 0, none⟩ = some (.slice A0_0 l0_0.length c0_0) := (q13a BK216.out 0).trans rfl; have hcz31_1 : w30.cell? ⟨gb216, 1, none⟩ = some (.slice A0_1 l0_1.length c0_1) := (q13a BK216.out 1).trans rfl; have hcz31_2 : w30.cell? ⟨gb216, 2, none⟩ = some (.slice A0_2 l0_2.length c0_2) := (q13a BK216.out 2).trans rfl; have hfz31_0 := zd BK216.out 0; have hfz31_1 := zd BK216.out 1; have hfz31_2 := zd BK216.out 2; have hcz32_0 : w30.cell? ⟨gb217, 0, none⟩ = some (.slice A1_0 l1_0.length c1_0) := (q13a BK217.out 0).trans rfl; have hcz32_1 : w30.cell? ⟨gb217, 1, none⟩ = some (.slice A1_1 l1_1.length c1_1) := (q13a BK217.out 1).trans rfl; have hcz32_2 : w30.cell? ⟨gb217, 2, none⟩ = some (.slice A1_2 l1_2.length c1_2) := (q13a BK217.out 2).trans rfl; have hfz32_0 := zd BK217.out 0; have hfz32_1 := zd BK217.out 1; have hfz32_2 := zd BK217.out 2) | ((with_reducible refine gate_callee (f := 33) rfl ?_); refine goesL_ (some 15) rfl rfl Try.func33 zG75 rfl #[.slice A0_1 l0_1.length c0_1, .slice A1_1 l1_1.length c1_1] rfl zG55 ?_; (with_reducible refine (laws_eqStringS.calls k _ _ l0_1 _ _ l1_1 false _ ?side1 ?side2 ?side3 ?side4 A5.out).mono ?_); (case side1 => exact zH55); (case side2 => exact HC0_1.out); (case side3 => exact zH53); (case side4 => exact HC1_1.out); rintro e w' ⟨rfl, ⟨nd, rfl⟩⟩; refine ⟨_, rfl, ?_⟩))
  go_ret
  exact zH21
 subst c6
 have H1 : ((laws_eqIntS.f k l0_2 l1_2).bind fun t220 => (if t220 = true then (some true) else (some false))) = some r := by rw [if_pos rfl] at H; exact H
 clear H
 have H := H1
 clear H1
 replace H := Option.bind_eq_some_iff.mp H
 obtain ⟨t220, A70, H⟩ := H
 replace H : (if t220 = true then (some true) else (some false)) = some r := H
 have A7 := zb A70
 clear A70
 by_cases c8 : t220 = true
 ·subst c8
  have H1 : (some true) = some r := by rw [if_pos rfl] at H; exact H
  clear H
  have H := H1
  clear H1
  obtain rfl := Option.some.inj H
  go_enter Try.func13, Try.ntmps13
  go_wp2_with (first | ((with_reducible refine gate_dst (N := 2) rfl ?_); refine box_event ?hg (N := 2) ?hd (cs := #[.slice A0_0 l0_0.length c0_0, .slice A0_1 l0_1.length c0_1, .slice A0_2 l0_2.length c0_2]) (t := 31) ?hr ?_; (case hd => rfl); (case hg => rfl); (case hr => exact zH101); intro gb216 hg w9 hbox hb; have n_ := zA_ (zb (zr zG61 hb)) (zA_ (zb (hbox)) (zA_ (zN1 w.heap.size hg (zq zG61)) (zN1 w.heap.size hg (zq zG61)))); clear HB; obtain ⟨HB, BK216, GW216, GE216⟩ := n_; clear hb hbox hg) | ((with_reducible refine gate_dst (N := 3) rfl ?_); refine box_event ?hg (N := 3) ?hd (cs := #[.slice A1_0 l1_0.length c1_0, .slice A1_1 l1_1.length c1_1, .slice A1_2 l1_2.length c1_2]) (t := 31) ?hr ?_; (case hd => rfl); (case hg => rfl); (case hr => exact zH101); intro gb217 hg w10 hbox hb; have n_ := zA_ (zb (zt (g := gb216) (o := .cells #[.slice A0_0 l0_0.length c0_0, .slice A0_1 l0_1.length c0_1, .slice A0_2 l0_2.length c0_2] 31 (0, 0)) zG65 hb)) (zA_ (zb (zr zG57 hb)) (zA_ (zb (hbox)) (zA_ (zN1 w.heap.size hg (zq zG57)) (zA_ (zN1 w.heap.size hg (zq zG57)) (zN2 hg (zaa (g := gb216) (o := .cells #[.slice A0_0 l0_0.length c0_0, .slice A0_1 l0_1.length c0_1, .slice A0_2 l0_2.length c0_2] 31 (0, 0)) zG65)))))); clear BK216 HB; obtain ⟨BK216, HB, BK217, GW217, GE217, NB216_217, NB217_216⟩ := n_; clear hb hbox hg; have hnb11 := NB216_217.out; have hnc11 := NB217_216.out; have hcz12_0 : w10.cell? ⟨gb216, 0, none⟩ = some (.slice A0_0 l0_0.length c0_0) := (q13a BK216.out 0).trans rfl; have hcz12_1 : w10.cell? ⟨gb216, 1, none⟩ = some (.slice A0_1 l0_1.length c0_1) := (q13a BK216.out 1).trans rfl; have hcz12_2 : w10.cell? ⟨gb216, 2, none⟩ = some (.slice A0_2 l0_2.length c0_2) := (q13a BK216.out 2).trans rfl; have hfz12_0 := zd BK216.out 0; have hfz12_1 := zd BK216.out 1; have hfz12_2 := zd BK216.out 2; have hcz13_0 : w10.cell? ⟨gb217, 0, none⟩ = some (.slice A1_0 l1_0.length c1_0) := (q13a BK217.out 0).trans rfl; have hcz13_1 : w10.cell? ⟨gb217, 1, none⟩ = some (.slice A1_1 l1_1.length c1_1) := (q13a BK217.out 1).trans rfl; have hcz13_2 : w10.cell? ⟨gb217, 2, none⟩ = some (.slice A1_2 l1_2.length c1_2) := (q13a BK217.out 2).trans rfl; have hfz13_0 := zd BK217.out 0; have hfz13_1 := zd BK217.out 1; have hfz13_2 := zd BK217.out 2) | ((with_reducible refine gate_callee (f := 32) rfl ?_); refine goesL_ (some 9) rfl rfl Try.func32 zG75 rfl #[.slice A0_0 l0_0.length c0_0, .slice A1_0 l1_0.length c1_0] rfl zG55 ?_; (with_reducible refine (laws_eqCardS.calls k _ _ l0_0 _ _ l1_0 true _ ?side1 ?side2 ?side3 ?side4 A3.out).mono ?_); (case side1 => exact zH56); (case side2 => exact HC0_0.out); (case side3 => exact zH54); (case side4 => exact HC1_0.out); rintro e w14 ⟨rfl, hb⟩; refine ⟨_, rfl, ?_⟩; have n_ := zA_ (zb (zt (g := gb216) (o := .cells #[.slice A0_0 l0_0.length c0_0, .slice A0_1 l0_1.length c0_1, .slice A0_2 l0_2.length c0_2] 31 (0, 0)) zG65 hb)) (zA_ (zb (zt (g := gb217) (o := .cells #[.slice A1_0 l1_0.length c1_0, .slice A1_1 l1_1.length c1_1, .slice A1_2 l1_2.length c1_2] 31 (0, 0)) zK155 hb)) (zb (zr zK142 hb))); clear BK216 BK217 HB; obtain ⟨BK216, BK217, HB⟩ := n_; (try clear hb); have hcz15_0 : w14.cell? ⟨gb216, 0, none⟩ = some (.slice A0_0 l0_0.length c0_0) := (q13a BK216.out 0).trans rfl; have hcz15_1 : w14.cell? ⟨gb216, 1, none⟩ = some (.slice A0_1 l0_1.length c0_1) := (q13a BK216.out 1).trans rfl; have hcz15_2 : w14.cell? ⟨gb216, 2, none⟩ = some (.slice A0_2 l0_2.length c0_2) := (q13a BK216.out 2).trans rfl; have hfz15_0 := zd BK216.out 0; have hfz15_1 := zd BK216.out 1; have hfz15_2 := zd BK216.out 2; have hcz16_0 : w14.cell? ⟨gb217, 0, none⟩ = some (.slice A1_0 l1_0.length c1_0) := (q13a BK217.out 0).trans rfl; have hcz16_1 : w14.cell? ⟨gb217, 1, none⟩ = some (.slice A1_1 l1_1.length c1_1) := (q13a BK217.out 1).trans rfl; have hcz16_2 : w14.cell? ⟨gb217, 2, none⟩ = some (.slice A1_2 l1_2.length c1_2) := (q13a BK217.out 2).trans rfl; have hfz16_0 := zd BK217.out 0; have hfz16_1 := zd BK217.out 1; have hfz16_2 := zd BK217.out 2) | ((with_reducible refine gate_callee (f := 33) rfl ?_); refine goesL_ (some 15) rfl rfl Try.func33 zG75 rfl #[.slice A0_1 l0_1.length c0_1, .slice A1_1 l1_1.length c1_1] rfl zG55 ?_; (with_reducible refine (laws_eqStringS.calls k _ _ l0_1 _ _ l1_1 true _ ?side1 ?side2 ?side3 ?side4 A5.out).mono ?_); (case side1 => exact zH55); (case side2 => exact HC0_1.out); (case side3 => exact zH53); (case side4 => exact HC1_1.out); rintro e w' ⟨rfl, ⟨nd, rfl⟩⟩; refine ⟨_, rfl, ?_⟩) | ((with_reducible refine gate_callee (f := 34) rfl ?_); refine goesL_ (some 21) rfl rfl Try.func34 zG75 rfl #[.slice A0_2 l0_2.length c0_2, .slice A1_2 l1_2.length c1_2] rfl zG55 ?_; (with_reducible refine (laws_eqIntS.calls k _ _ l0_2 _ _ l1_2 true _ ?side1 ?side2 ?side3 ?side4 A7.out).mono ?_); (case side1 => exact zH14); (case side2 => exact HC0_2.out); (case side3 => exact zH15); (case side4 => exact HC1_2.out); rintro e w' ⟨rfl, ⟨nd, rfl⟩⟩; refine ⟨_, rfl, ?_⟩))
  go_ret
  exact zH21
 replace c8 := Bool.eq_false_iff.mpr c8
 subst c8
 have H1 : (some false) = some r := by rw [if_neg (show ¬ (false = true) by decide)] at H; exact H
 clear H
 have H := H1
 clear H1
 obtain rfl := Option.some.inj H
 go_enter Try.func13, Try.ntmps13
 go_wp2_with (first | ((with_reducible refine gate_dst (N := 2) rfl ?_); refine box_event ?hg (N := 2) ?hd (cs := #[.slice A0_0 l0_0.length c0_0, .slice A0_1 l0_1.length c0_1, .slice A0_2 l0_2.length c0_2]) (t := 31) ?hr ?_; (case hd => rfl); (case hg => rfl); (case hr => exact zH101); intro gb216 hg w17 hbox hb; have n_ := zA_ (zb (zr zG61 hb)) (zA_ (zb (hbox)) (zA_ (zN1 w.heap.size hg (zq zG61)) (zN1 w.heap.size hg (zq zG61)))); clear HB; obtain ⟨HB, BK216, GW216, GE216⟩ := n_; clear hb hbox hg) | ((with_reducible refine gate_dst (N := 3) rfl ?_); refine box_event ?hg (N := 3) ?hd (cs := #[.slice A1_0 l1_0.length c1_0, .slice A1_1 l1_1.length c1_1, .slice A1_2 l1_2.length c1_2]) (t := 31) ?hr ?_; (case hd => rfl); (case hg => rfl); (case hr => exact zH101); intro gb217 hg w18 hbox hb; have n_ := zA_ (zb (zt (g := gb216) (o := .cells #[.slice A0_0 l0_0.length c0_0, .slice A0_1 l0_1.length c0_1, .slice A0_2 l0_2.length c0_2] 31 (0, 0)) zG65 hb)) (zA_ (zb (zr zG57 hb)) (zA_ (zb (hbox)) (zA_ (zN1 w.heap.size hg (zq zG57)) (zA_ (zN1 w.heap.size hg (zq zG57)) (zN2 hg (zaa (g := gb216) (o := .cells #[.slice A0_0 l0_0.length c0_0, .slice A0_1 l0_1.length c0_1, .slice A0_2 l0_2.length c0_2] 31 (0, 0)) zG65)))))); clear BK216 HB; obtain ⟨BK216, HB, BK217, GW217, GE217, NB216_217, NB217_216⟩ := n_; clear hb hbox hg; have hnb19 := NB216_217.out; have hnc19 := NB217_216.out; have hcz20_0 : w18.cell? ⟨gb216, 0, none⟩ = some (.slice A0_0 l0_0.length c0_0) := (q13a BK216.out 0).trans rfl; have hcz20_1 : w18.cell? ⟨gb216, 1, none⟩ = some (.slice A0_1 l0_1.length c0_1) := (q13a BK216.out 1).trans rfl; have hcz20_2 : w18.cell? ⟨gb216, 2, none⟩ = some (.slice A0_2 l0_2.length c0_2) := (q13a BK216.out 2).trans rfl; have hfz20_0 := zd BK216.out 0; have hfz20_1 := zd BK216.out 1; have hfz20_2 := zd BK216.out 2; have hcz21_0 : w18.cell? ⟨gb217, 0, none⟩ = some (.slice A1_0 l1_0.length c1_0) := (q13a BK217.out 0).trans rfl; have hcz21_1 : w18.cell? ⟨gb217, 1, none⟩ = some (.slice A1_1 l1_1.length c1_1) := (q13a BK217.out 1).trans rfl; have hcz21_2 : w18.cell? ⟨gb217, 2, none⟩ = some (.slice A1_2 l1_2.length c1_2) := (q13a BK217.out 2).trans rfl; have hfz21_0 := zd BK217.out 0; have hfz21_1 := zd BK217.out 1; have hfz21_2 := zd BK217.out 2) | ((with_reducible refine gate_callee (f := 32) rfl ?_); refine goesL_ (some 9) rfl rfl Try.func32 zG75 rfl #[.slice A0_0 l0_0.length c0_0, .slice A1_0 l1_0.length c1_0] rfl zG55 ?_; (with_reducible refine (laws_eqCardS.calls k _ _ l0_0 _ _ l1_0 true _ ?side1 ?side2 ?side3 ?side4 A3.out).mono ?_); (case side1 => exact zH56); (case side2 => exact HC0_0.out); (case side3 => exact zH54); (case side4 => exact HC1_0.out); rintro e w22 ⟨rfl, hb⟩; refine ⟨_, rfl, ?_⟩; have n_ := zA_ (zb (zt (g := gb216) (o := .cells #[.slice A0_0 l0_0.length c0_0, .slice A0_1 l0_1.length c0_1, .slice A0_2 l0_2.length c0_2] 31 (0, 0)) zG65 hb)) (zA_ (zb (zt (g := gb217) (o := .cells #[.slice A1_0 l1_0.length c1_0, .slice A1_1 l1_1.length c1_1, .slice A1_2 l1_2.length c1_2] 31 (0, 0)) zK155 hb)) (zb (zr zK142 hb))); clear BK216 BK217 HB; obtain ⟨BK216, BK217, HB⟩ := n_; (try clear hb); have hcz23_0 : w22.cell? ⟨gb216, 0, none⟩ = some (.slice A0_0 l0_0.length c0_0) := (q13a BK216.out 0).trans rfl; have hcz23_1 : w22.cell? ⟨gb216, 1, none⟩ = some (.slice A0_1 l0_1.length c0_1) := (q13a BK216.out 1).trans rfl; have hcz23_2 : w22.cell? ⟨gb216, 2, none⟩ = some (.slice A0_2 l0_2.length c0_2) := (q13a BK216.out 2).trans rfl; have hfz23_0 := zd BK216.out 0; have hfz23_1 := zd BK216.out 1; have hfz23_2 := zd BK216.out 2; have hcz24_0 : w22.cell? ⟨gb217, 0, none⟩ = some (.slice A1_0 l1_0.length c1_0) := (q13a BK217.out 0).trans rfl; have hcz24_1 : w22.cell? ⟨gb217, 1, none⟩ = some (.slice A1_1 l1_1.length c1_1) := (q13a BK217.out 1).trans rfl; have hcz24_2 : w22.cell? ⟨gb217, 2, none⟩ = some (.slice A1_2 l1_2.length c1_2) := (q13a BK217.out 2).trans rfl; have hfz24_0 := zd BK217.out 0; have hfz24_1 := zd BK217.out 1; have hfz24_2 := zd BK217.out 2) | ((with_reducible refine gate_callee (f := 33) rfl ?_); refine goesL_ (some 15) rfl rfl Try.func33 zG75 rfl #[.slice A0_1 l0_1.length c0_1, .slice A1_1 l1_1.length c1_1] rfl zG55 ?_; (with_reducible refine (laws_eqStringS.calls k _ _ l0_1 _ _ l1_1 true _ ?side1 ?side2 ?side3 ?side4 A5.out).mono ?_); (case side1 => exact zH55); (case side2 => exact HC0_1.out); (case side3 => exact zH53); (case side4 => exact HC1_1.out); rintro e w' ⟨rfl, ⟨nd, rfl⟩⟩; refine ⟨_, rfl, ?_⟩) | ((with_reducible refine gate_callee (f := 34) rfl ?_); refine goesL_ (some 21) rfl rfl Try.func34 zG75 rfl #[.slice A0_2 l0_2.length c0_2, .slice A1_2 l1_2.length c1_2] rfl zG55 ?_; (with_reducible refine (laws_eqIntS.calls k _ _ l0_2 _ _ l1_2 false _ ?side1 ?side2 ?side3 ?side4 A7.out).mono ?_); (case side1 => exact zH14); (case side2 => exact HC0_2.out); (case side3 => exact zH15); (case side4 => exact HC1_2.out); rintro e w' ⟨rfl, ⟨nd, rfl⟩⟩; refine ⟨_, rfl, ?_⟩))
 go_ret
 exact zH21
/-! ### laws_eqEvent: function 35 -/
def laws_eqEvent.f (a0_0 : Int) (a0_1 : Int) (a0_2 : Int) (a0_3 : Int) (a0_4 : ByteArray) (a0_5 : Int) (a1_0 : Int) (a1_1 : Int) (a1_2 : Int) (a1_3 : Int) (a1_4 : ByteArray) (a1_5 : Int) : Option (Bool) := if a0_0 = a1_0 then (if a0_1 = a1_1 then (if a0_2 = a1_2 then (if a0_3 = a1_3 then (if a0_4.toList = a1_4.toList then (if a0_5 = a1_5 then (some true) else (some false)) else (some false)) else (some false)) else (some false)) else (some false)) else (some false)
set_option maxHeartbeats 64000000 in
set_option maxRecDepth 100000 in
theorem laws_eqEvent.calls (a0_0 : Int) (a0_1 : Int) (a0_2 : Int) (a0_3 : Int) (a0_4 : ByteArray) (a0_5 : Int) (a1_0 : Int) (a1_1 : Int) (a1_2 : Int) (a1_3 : Int) (a1_4 : ByteArray) (a1_5 : Int) (r : Bool) (w : World) (h : laws_eqEvent.f a0_0 a0_1 a0_2 a0_3 a0_4 a0_5 a1_0 a1_1 a1_2 a1_3 a1_4 a1_5 = some r) :
  Calls Try.prog 35 #[.agg #[.int .i64 a0_0, .int .i64 a0_1, .int .i64 a0_2, .int .i64 a0_3, .string a0_4, .int .i64 a0_5], .agg #[.int .i64 a1_0, .int .i64 a1_1, .int .i64 a1_2, .int .i64 a1_3, .string a1_4, .int .i64 a1_5]] w fun e w' => e = .returned (.bool r) ∧ Below w.heap.size w w' := by
 have hu35 := Try.underlying35
 have HB := zb (Below.refl w.heap.size w)
 have H : (if a0_0 = a1_0 then (if a0_1 = a1_1 then (if a0_2 = a1_2 then (if a0_3 = a1_3 then (if a0_4.toList = a1_4.toList then (if a0_5 = a1_5 then (some true) else (some false)) else (some false)) else (some false)) else (some false)) else (some false)) else (some false)) = some r := h
 clear h
 by_cases c3 : a0_0 = a1_0
 rotate_left
 ·rw [if_neg c3] at H
  have c3b0 : (a0_0 == a1_0) = false := beq_eq_false_iff_ne.mpr c3
  have c3b1 : (a0_0 != a1_0) = true := bne_iff_ne.mpr c3
  obtain rfl := Option.some.inj H
  go_enter Try.func35, Try.ntmps35
  go_wp2_with (first | ((with_reducible refine gate_dst (N := 2) rfl ?_); refine box_event ?hg (N := 2) ?hd (cs := #[.int .i64 a0_0, .int .i64 a0_1, .int .i64 a0_2, .int .i64 a0_3, .string a0_4, .int .i64 a0_5]) (t := 35) ?hr ?_; (case hd => rfl); (case hg => rfl); (case hr => exact zH101); intro gb221 hg w39 hbox hb; have n_ := zA_ (zb (zr zG61 hb)) (zA_ (zb (hbox)) (zA_ (zN1 w.heap.size hg (zq zG61)) (zN1 w.heap.size hg (zq zG61)))); clear HB; obtain ⟨HB, BK221, GW221, GE221⟩ := n_; clear hb hbox hg) | ((with_reducible refine gate_dst (N := 3) rfl ?_); refine box_event ?hg (N := 3) ?hd (cs := #[.int .i64 a1_0, .int .i64 a1_1, .int .i64 a1_2, .int .i64 a1_3, .string a1_4, .int .i64 a1_5]) (t := 35) ?hr ?_; (case hd => rfl); (case hg => rfl); (case hr => exact zH101); intro gb222 hg w40 hbox hb; have n_ := zA_ (zb (zt (g := gb221) (o := .cells #[.int .i64 a0_0, .int .i64 a0_1, .int .i64 a0_2, .int .i64 a0_3, .string a0_4, .int .i64 a0_5] 35 (0, 0)) zG66 hb)) (zA_ (zb (zr zG58 hb)) (zA_ (zb (hbox)) (zA_ (zN1 w.heap.size hg (zq zG58)) (zA_ (zN1 w.heap.size hg (zq zG58)) (zN2 hg (zaa (g := gb221) (o := .cells #[.int .i64 a0_0, .int .i64 a0_1, .int .i64 a0_2, .int .i64 a0_3, .string a0_4, .int .i64 a0_5] 35 (0, 0)) zG66)))))); clear BK221 HB; obtain ⟨BK221, HB, BK222, GW222, GE222, NB221_222, NB222_221⟩ := n_; clear hb hbox hg; have hnb41 := NB221_222.out; have hnc41 := NB222_221.out; have hcz42_0 : w40.cell? ⟨gb221, 0, none⟩ = some (.int .i64 a0_0) := (q13a BK221.out 0).trans rfl; have hcz42_1 : w40.cell? ⟨gb221, 1, none⟩ = some (.int .i64 a0_1) := (q13a BK221.out 1).trans rfl; have hcz42_2 : w40.cell? ⟨gb221, 2, none⟩ = some (.int .i64 a0_2) := (q13a BK221.out 2).trans rfl; have hcz42_3 : w40.cell? ⟨gb221, 3, none⟩ = some (.int .i64 a0_3) := (q13a BK221.out 3).trans rfl; have hcz42_4 : w40.cell? ⟨gb221, 4, none⟩ = some (.string a0_4) := (q13a BK221.out 4).trans rfl; have hcz42_5 : w40.cell? ⟨gb221, 5, none⟩ = some (.int .i64 a0_5) := (q13a BK221.out 5).trans rfl; have hfz42_0 := zd BK221.out 0; have hfz42_1 := zd BK221.out 1; have hfz42_2 := zd BK221.out 2; have hfz42_3 := zd BK221.out 3; have hfz42_4 := zd BK221.out 4; have hfz42_5 := zd BK221.out 5; have hcz43_0 : w40.cell? ⟨gb222, 0, none⟩ = some (.int .i64 a1_0) := (q13a BK222.out 0).trans rfl; have hcz43_1 : w40.cell? ⟨gb222, 1, none⟩ = some (.int .i64 a1_1) := (q13a BK222.out 1).trans rfl; have hcz43_2 : w40.cell? ⟨gb222, 2, none⟩ = some (.int .i64 a1_2) := (q13a BK222.out 2).trans rfl; have hcz43_3 : w40.cell? ⟨gb222, 3, none⟩ = some (.int .i64 a1_3) := (q13a BK222.out 3).trans rfl; have hcz43_4 : w40.cell? ⟨gb222, 4, none⟩ = some (.string a1_4) := (q13a BK222.out 4).trans rfl; have hcz43_5 : w40.cell? ⟨gb222, 5, none⟩ = some (.int .i64 a1_5) := (q13a BK222.out 5).trans rfl; have hfz43_0 := zd BK222.out 0; have hfz43_1 := zd BK222.out 1; have hfz43_2 := zd BK222.out 2; have hfz43_3 := zd BK222.out 3; have hfz43_4 := zd BK222.out 4; have hfz43_5 := zd BK222.out 5))
  go_ret
  exact zH24

 rw [if_pos c3] at H
 have c3b0 : (a0_0 == a1_0) = true := beq_iff_eq.mpr c3
 have c3b1 : (a0_0 != a1_0) = false := bne_eq_false_iff_eq.mpr c3
 clear c3
 by_cases c4 : a0_1 = a1_1
 rotate_left
 ·rw [if_neg c4] at H
  have c4b0 : (a0_1 == a1_1) = false := beq_eq_false_iff_ne.mpr c4
  have c4b1 : (a0_1 != a1_1) = true := bne_iff_ne.mpr c4
  obtain rfl := Option.some.inj H
  go_enter Try.func35, Try.ntmps35
  go_wp2_with (first | ((with_reducible refine gate_dst (N := 2) rfl ?_); refine box_event ?hg (N := 2) ?hd (cs := #[.int .i64 a0_0, .int .i64 a0_1, .int .i64 a0_2, .int .i64 a0_3, .string a0_4, .int .i64 a0_5]) (t := 35) ?hr ?_; (case hd => rfl); (case hg => rfl); (case hr => exact zH101); intro gb221 hg w34 hbox hb; have n_ := zA_ (zb (zr zG61 hb)) (zA_ (zb (hbox)) (zA_ (zN1 w.heap.size hg (zq zG61)) (zN1 w.heap.size hg (zq zG61)))); clear HB; obtain ⟨HB, BK221, GW221, GE221⟩ := n_; clear hb hbox hg) | ((with_reducible refine gate_dst (N := 3) rfl ?_); refine box_event ?hg (N := 3) ?hd (cs := #[.int .i64 a1_0, .int .i64 a1_1, .int .i64 a1_2, .int .i64 a1_3, .string a1_4, .int .i64 a1_5]) (t := 35) ?hr ?_; (case hd => rfl); (case hg => rfl); (case hr => exact zH101); intro gb222 hg w35 hbox hb; have n_ := zA_ (zb (zt (g := gb221) (o := .cells #[.int .i64 a0_0, .int .i64 a0_1, .int .i64 a0_2, .int .i64 a0_3, .string a0_4, .int .i64 a0_5] 35 (0, 0)) zG66 hb)) (zA_ (zb (zr zG58 hb)) (zA_ (zb (hbox)) (zA_ (zN1 w.heap.size hg (zq zG58)) (zA_ (zN1 w.heap.size hg (zq zG58)) (zN2 hg (zaa (g := gb221) (o := .cells #[.int .i64 a0_0, .int .i64 a0_1, .int .i64 a0_2, .int .i64 a0_3, .string a0_4, .int .i64 a0_5] 35 (0, 0)) zG66)))))); clear BK221 HB; obtain ⟨BK221, HB, BK222, GW222, GE222, NB221_222, NB222_221⟩ := n_; clear hb hbox hg; have hnb36 := NB221_222.out; have hnc36 := NB222_221.out; have hcz37_0 : w35.cell? ⟨gb221, 0, none⟩ = some (.int .i64 a0_0) := (q13a BK221.out 0).trans rfl; have hcz37_1 : w35.cell? ⟨gb221, 1, none⟩ = some (.int .i64 a0_1) := (q13a BK221.out 1).trans rfl; have hcz37_2 : w35.cell? ⟨gb221, 2, none⟩ = some (.int .i64 a0_2) := (q13a BK221.out 2).trans rfl; have hcz37_3 : w35.cell? ⟨gb221, 3, none⟩ = some (.int .i64 a0_3) := (q13a BK221.out 3).trans rfl; have hcz37_4 : w35.cell? ⟨gb221, 4, none⟩ = some (.string a0_4) := (q13a BK221.out 4).trans rfl; have hcz37_5 : w35.cell? ⟨gb221, 5, none⟩ = some (.int .i64 a0_5) := (q13a BK221.out 5).trans rfl; have hfz37_0 := zd BK221.out 0; have hfz37_1 := zd BK221.out 1; have hfz37_2 := zd BK221.out 2; have hfz37_3 := zd BK221.out 3; have hfz37_4 := zd BK221.out 4; have hfz37_5 := zd BK221.out 5; have hcz38_0 : w35.cell? ⟨gb222, 0, none⟩ = some (.int .i64 a1_0) := (q13a BK222.out 0).trans rfl; have hcz38_1 : w35.cell? ⟨gb222, 1, none⟩ = some (.int .i64 a1_1) := (q13a BK222.out 1).trans rfl; have hcz38_2 : w35.cell? ⟨gb222, 2, none⟩ = some (.int .i64 a1_2) := (q13a BK222.out 2).trans rfl; have hcz38_3 : w35.cell? ⟨gb222, 3, none⟩ = some (.int .i64 a1_3) := (q13a BK222.out 3).trans rfl; have hcz38_4 : w35.cell? ⟨gb222, 4, none⟩ = some (.string a1_4) := (q13a BK222.out 4).trans rfl; have hcz38_5 : w35.cell? ⟨gb222, 5, none⟩ = some (.int .i64 a1_5) := (q13a BK222.out 5).trans rfl; have hfz38_0 := zd BK222.out 0; have hfz38_1 := zd BK222.out 1; have hfz38_2 := zd BK222.out 2; have hfz38_3 := zd BK222.out 3; have hfz38_4 := zd BK222.out 4; have hfz38_5 := zd BK222.out 5))
  go_ret
  exact zH24
 rw [if_pos c4] at H
 have c4b0 : (a0_1 == a1_1) = true := beq_iff_eq.mpr c4
 have c4b1 : (a0_1 != a1_1) = false := bne_eq_false_iff_eq.mpr c4
 clear c4
 by_cases c5 : a0_2 = a1_2
 rotate_left
 ·rw [if_neg c5] at H
  have c5b0 : (a0_2 == a1_2) = false := beq_eq_false_iff_ne.mpr c5
  have c5b1 : (a0_2 != a1_2) = true := bne_iff_ne.mpr c5
  obtain rfl := Option.some.inj H
  go_enter Try.func35, Try.ntmps35
  go_wp2_with (first | ((with_reducible refine gate_dst (N := 2) rfl ?_); refine box_event ?hg (N := 2) ?hd (cs := #[.int .i64 a0_0, .int .i64 a0_1, .int .i64 a0_2, .int .i64 a0_3, .string a0_4, .int .i64 a0_5]) (t := 35) ?hr ?_; (case hd => rfl); (case hg => rfl); (case hr => exact zH101); intro gb221 hg w29 hbox hb; have n_ := zA_ (zb (zr zG61 hb)) (zA_ (zb (hbox)) (zA_ (zN1 w.heap.size hg (zq zG61)) (zN1 w.heap.size hg (zq zG61)))); clear HB; obtain ⟨HB, BK221, GW221, GE221⟩ := n_; clear hb hbox hg) | ((with_reducible refine gate_dst (N := 3) rfl ?_); refine box_event ?hg (N := 3) ?hd (cs := #[.int .i64 a1_0, .int .i64 a1_1, .int .i64 a1_2, .int .i64 a1_3, .string a1_4, .int .i64 a1_5]) (t := 35) ?hr ?_; (case hd => rfl); (case hg => rfl); (case hr => exact zH101); intro gb222 hg w30 hbox hb; have n_ := zA_ (zb (zt (g := gb221) (o := .cells #[.int .i64 a0_0, .int .i64 a0_1, .int .i64 a0_2, .int .i64 a0_3, .string a0_4, .int .i64 a0_5] 35 (0, 0)) zG66 hb)) (zA_ (zb (zr zG58 hb)) (zA_ (zb (hbox)) (zA_ (zN1 w.heap.size hg (zq zG58)) (zA_ (zN1 w.heap.size hg (zq zG58)) (zN2 hg (zaa (g := gb221) (o := .cells #[.int .i64 a0_0, .int .i64 a0_1, .int .i64 a0_2, .int .i64 a0_3, .string a0_4, .int .i64 a0_5] 35 (0, 0)) zG66)))))); clear BK221 HB; obtain ⟨BK221, HB, BK222, GW222, GE222, NB221_222, NB222_221⟩ := n_; clear hb hbox hg; have hnb31 := NB221_222.out; have hnc31 := NB222_221.out; have hcz32_0 : w30.cell? ⟨gb221, 0, none⟩ = some (.int .i64 a0_0) := (q13a BK221.out 0).trans rfl; have hcz32_1 : w30.cell? ⟨gb221, 1, none⟩ = some (.int .i64 a0_1) := (q13a BK221.out 1).trans rfl; have hcz32_2 : w30.cell? ⟨gb221, 2, none⟩ = some (.int .i64 a0_2) := (q13a BK221.out 2).trans rfl; have hcz32_3 : w30.cell? ⟨gb221, 3, none⟩ = some (.int .i64 a0_3) := (q13a BK221.out 3).trans rfl; have hcz32_4 : w30.cell? ⟨gb221, 4, none⟩ = some (.string a0_4) := (q13a BK221.out 4).trans rfl; have hcz32_5 : w30.cell? ⟨gb221, 5, none⟩ = some (.int .i64 a0_5) := (q13a BK221.out 5).trans rfl; have hfz32_0 := zd BK221.out 0; have hfz32_1 := zd BK221.out 1; have hfz32_2 := zd BK221.out 2; have hfz32_3 := zd BK221.out 3; have hfz32_4 := zd BK221.out 4; have hfz32_5 := zd BK221.out 5; have hcz33_0 : w30.cell? ⟨gb222, 0, none⟩ = some (.int .i64 a1_0) := (q13a BK222.out 0).trans rfl; have hcz33_1 : w30.cell? ⟨gb222, 1, none⟩ = some (.int .i64 a1_1) := (q13a BK222.out 1).trans rfl; have hcz33_2 : w30.cell? ⟨gb222, 2, none⟩ = some (.int .i64 a1_2) := (q13a BK222.out 2).trans rfl; have hcz33_3 : w30.cell? ⟨gb222, 3, none⟩ = some (.int .i64 a1_3) := (q13a BK222.out 3).trans rfl; have hcz33_4 : w30.cell? ⟨gb222, 4, none⟩ = some (.string a1_4) := (q13a BK222.out 4).trans rfl; have hcz33_5 : w30.cell? ⟨gb222, 5, none⟩ = some (.int .i64 a1_5) := (q13a BK222.out 5).trans rfl; have hfz33_0 := zd BK222.out 0; have hfz33_1 := zd BK222.out 1; have hfz33_2 := zd BK222.out 2; have hfz33_3 := zd BK222.out 3; have hfz33_4 := zd BK222.out 4; have hfz33_5 := zd BK222.out 5))
  go_ret
  exact zH24
 rw [if_pos c5] at H
 have c5b0 : (a0_2 == a1_2) = true := beq_iff_eq.mpr c5
 have c5b1 : (a0_2 != a1_2) = false := bne_eq_false_iff_eq.mpr c5
 clear c5
 by_cases c6 : a0_3 = a1_3
 rotate_left
 ·rw [if_neg c6] at H
  have c6b0 : (a0_3 == a1_3) = false := beq_eq_false_iff_ne.mpr c6
  have c6b1 : (a0_3 != a1_3) = true := bne_iff_ne.mpr c6
  obtain rfl := Option.some.inj H
  go_enter Try.func35, Try.ntmps35
  go_wp2_with (first | ((with_reducible refine gate_dst (N := 2) rfl ?_); refine box_event ?hg (N := 2) ?hd (cs := #[.int .i64 a0_0, .int .i64 a0_1, .int .i64 a0_2, .int .i64 a0_3, .string a0_4, .int .i64 a0_5]) (t := 35) ?hr ?_; (case hd => rfl); (case hg => rfl); (case hr => exact zH101); intro gb221 hg w24 hbox hb; have n_ := zA_ (zb (zr zG61 hb)) (zA_ (zb (hbox)) (zA_ (zN1 w.heap.size hg (zq zG61)) (zN1 w.heap.size hg (zq zG61)))); clear HB; obtain ⟨HB, BK221, GW221, GE221⟩ := n_; clear hb hbox hg) | ((with_reducible refine gate_dst (N := 3) rfl ?_); refine box_event ?hg (N := 3) ?hd (cs := #[.int .i64 a1_0, .int .i64 a1_1, .int .i64 a1_2, .int .i64 a1_3, .string a1_4, .int .i64 a1_5]) (t := 35) ?hr ?_; (case hd => rfl); (case hg => rfl); (case hr => exact zH101); intro gb222 hg w25 hbox hb; have n_ := zA_ (zb (zt (g := gb221) (o := .cells #[.int .i64 a0_0, .int .i64 a0_1, .int .i64 a0_2, .int .i64 a0_3, .string a0_4, .int .i64 a0_5] 35 (0, 0)) zG66 hb)) (zA_ (zb (zr zG58 hb)) (zA_ (zb (hbox)) (zA_ (zN1 w.heap.size hg (zq zG58)) (zA_ (zN1 w.heap.size hg (zq zG58)) (zN2 hg (zaa (g := gb221) (o := .cells #[.int .i64 a0_0, .int .i64 a0_1, .int .i64 a0_2, .int .i64 a0_3, .string a0_4, .int .i64 a0_5] 35 (0, 0)) zG66)))))); clear BK221 HB; obtain ⟨BK221, HB, BK222, GW222, GE222, NB221_222, NB222_221⟩ := n_; clear hb hbox hg; have hnb26 := NB221_222.out; have hnc26 := NB222_221.out; have hcz27_0 : w25.cell? ⟨gb221, 0, none⟩ = some (.int .i64 a0_0) := (q13a BK221.out 0).trans rfl; have hcz27_1 : w25.cell? ⟨gb221, 1, none⟩ = some (.int .i64 a0_1) := (q13a BK221.out 1).trans rfl; have hcz27_2 : w25.cell? ⟨gb221, 2, none⟩ = some (.int .i64 a0_2) := (q13a BK221.out 2).trans rfl; have hcz27_3 : w25.cell? ⟨gb221, 3, none⟩ = some (.int .i64 a0_3) := (q13a BK221.out 3).trans rfl; have hcz27_4 : w25.cell? ⟨gb221, 4, none⟩ = some (.string a0_4) := (q13a BK221.out 4).trans rfl; have hcz27_5 : w25.cell? ⟨gb221, 5, none⟩ = some (.int .i64 a0_5) := (q13a BK221.out 5).trans rfl; have hfz27_0 := zd BK221.out 0; have hfz27_1 := zd BK221.out 1; have hfz27_2 := zd BK221.out 2; have hfz27_3 := zd BK221.out 3; have hfz27_4 := zd BK221.out 4; have hfz27_5 := zd BK221.out 5; have hcz28_0 : w25.cell? ⟨gb222, 0, none⟩ = some (.int .i64 a1_0) := (q13a BK222.out 0).trans rfl; have hcz28_1 : w25.cell? ⟨gb222, 1, none⟩ = some (.int .i64 a1_1) := (q13a BK222.out 1).trans rfl; have hcz28_2 : w25.cell? ⟨gb222, 2, none⟩ = some (.int .i64 a1_2) := (q13a BK222.out 2).trans rfl; have hcz28_3 : w25.cell? ⟨gb222, 3, none⟩ = some (.int .i64 a1_3) := (q13a BK222.out 3).trans rfl; have hcz28_4 : w25.cell? ⟨gb222, 4, none⟩ = some (.string a1_4) := (q13a BK222.out 4).trans rfl; have hcz28_5 : w25.cell? ⟨gb222, 5, none⟩ = some (.int .i64 a1_5) := (q13a BK222.out 5).trans rfl; have hfz28_0 := zd BK222.out 0; have hfz28_1 := zd BK222.out 1; have hfz28_2 := zd BK222.out 2; have hfz28_3 := zd BK222.out 3; have hfz28_4 := zd BK222.out 4; have hfz28_5 := zd BK222.out 5))
  go_ret
  exact zH24
 rw [if_pos c6] at H
 have c6b0 : (a0_3 == a1_3) = true := beq_iff_eq.mpr c6
 have c6b1 : (a0_3 != a1_3) = false := bne_eq_false_iff_eq.mpr c6
 clear c6
 by_cases c7 : a0_4.toList = a1_4.toList
 rotate_left
 ·rw [if_neg c7] at H
  have c7b0 : (a0_4.toList == a1_4.toList) = false := beq_eq_false_iff_ne.mpr c7
  have c7b1 : (a0_4.toList != a1_4.toList) = true := bne_iff_ne.mpr c7
  obtain rfl := Option.some.inj H
  go_enter Try.func35, Try.ntmps35
  go_wp2_with (first | ((with_reducible refine gate_dst (N := 2) rfl ?_); refine box_event ?hg (N := 2) ?hd (cs := #[.int .i64 a0_0, .int .i64 a0_1, .int .i64 a0_2, .int .i64 a0_3, .string a0_4, .int .i64 a0_5]) (t := 35) ?hr ?_; (case hd => rfl); (case hg => rfl); (case hr => exact zH101); intro gb221 hg w19 hbox hb; have n_ := zA_ (zb (zr zG61 hb)) (zA_ (zb (hbox)) (zA_ (zN1 w.heap.size hg (zq zG61)) (zN1 w.heap.size hg (zq zG61)))); clear HB; obtain ⟨HB, BK221, GW221, GE221⟩ := n_; clear hb hbox hg) | ((with_reducible refine gate_dst (N := 3) rfl ?_); refine box_event ?hg (N := 3) ?hd (cs := #[.int .i64 a1_0, .int .i64 a1_1, .int .i64 a1_2, .int .i64 a1_3, .string a1_4, .int .i64 a1_5]) (t := 35) ?hr ?_; (case hd => rfl); (case hg => rfl); (case hr => exact zH101); intro gb222 hg w20 hbox hb; have n_ := zA_ (zb (zt (g := gb221) (o := .cells #[.int .i64 a0_0, .int .i64 a0_1, .int .i64 a0_2, .int .i64 a0_3, .string a0_4, .int .i64 a0_5] 35 (0, 0)) zG66 hb)) (zA_ (zb (zr zG58 hb)) (zA_ (zb (hbox)) (zA_ (zN1 w.heap.size hg (zq zG58)) (zA_ (zN1 w.heap.size hg (zq zG58)) (zN2 hg (zaa (g := gb221) (o := .cells #[.int .i64 a0_0, .int .i64 a0_1, .int .i64 a0_2, .int .i64 a0_3, .string a0_4, .int .i64 a0_5] 35 (0, 0)) zG66)))))); clear BK221 HB; obtain ⟨BK221, HB, BK222, GW222, GE222, NB221_222, NB222_221⟩ := n_; clear hb hbox hg; have hnb21 := NB221_222.out; have hnc21 := NB222_221.out; have hcz22_0 : w20.cell? ⟨gb221, 0, none⟩ = some (.int .i64 a0_0) := (q13a BK221.out 0).trans rfl; have hcz22_1 : w20.cell? ⟨gb221, 1, none⟩ = some (.int .i64 a0_1) := (q13a BK221.out 1).trans rfl; have hcz22_2 : w20.cell? ⟨gb221, 2, none⟩ = some (.int .i64 a0_2) := (q13a BK221.out 2).trans rfl; have hcz22_3 : w20.cell? ⟨gb221, 3, none⟩ = some (.int .i64 a0_3) := (q13a BK221.out 3).trans rfl; have hcz22_4 : w20.cell? ⟨gb221, 4, none⟩ = some (.string a0_4) := (q13a BK221.out 4).trans rfl; have hcz22_5 : w20.cell? ⟨gb221, 5, none⟩ = some (.int .i64 a0_5) := (q13a BK221.out 5).trans rfl; have hfz22_0 := zd BK221.out 0; have hfz22_1 := zd BK221.out 1; have hfz22_2 := zd BK221.out 2; have hfz22_3 := zd BK221.out 3; have hfz22_4 := zd BK221.out 4; have hfz22_5 := zd BK221.out 5; have hcz23_0 : w20.cell? ⟨gb222, 0, none⟩ = some (.int .i64 a1_0) := (q13a BK222.out 0).trans rfl; have hcz23_1 : w20.cell? ⟨gb222, 1, none⟩ = some (.int .i64 a1_1) := (q13a BK222.out 1).trans rfl; have hcz23_2 : w20.cell? ⟨gb222, 2, none⟩ = some (.int .i64 a1_2) := (q13a BK222.out 2).trans rfl; have hcz23_3 : w20.cell? ⟨gb222, 3, none⟩ = some (.int .i64 a1_3) := (q13a BK222.out 3).trans rfl; have hcz23_4 : w20.cell? ⟨gb222, 4, none⟩ = some (.string a1_4) := (q13a BK222.out 4).trans rfl; have hcz23_5 : w20.cell? ⟨gb222, 5, none⟩ = some (.int .i64 a1_5) := (q13a BK222.out 5).trans rfl; have hfz23_0 := zd BK222.out 0; have hfz23_1 := zd BK222.out 1; have hfz23_2 := zd BK222.out 2; have hfz23_3 := zd BK222.out 3; have hfz23_4 := zd BK222.out 4; have hfz23_5 := zd BK222.out 5))
  go_ret
  exact zH24
 rw [if_pos c7] at H
 have c7b0 : (a0_4.toList == a1_4.toList) = true := beq_iff_eq.mpr c7
 have c7b1 : (a0_4.toList != a1_4.toList) = false := bne_eq_false_iff_eq.mpr c7
 clear c7
 by_cases c8 : a0_5 = a1_5
 rotate_left
 ·rw [if_neg c8] at H
  have c8b0 : (a0_5 == a1_5) = false := beq_eq_false_iff_ne.mpr c8
  have c8b1 : (a0_5 != a1_5) = true := bne_iff_ne.mpr c8
  obtain rfl := Option.some.inj H
  go_enter Try.func35, Try.ntmps35
  go_wp2_with (first | ((with_reducible refine gate_dst (N := 2) rfl ?_); refine box_event ?hg (N := 2) ?hd (cs := #[.int .i64 a0_0, .int .i64 a0_1, .int .i64 a0_2, .int .i64 a0_3, .string a0_4, .int .i64 a0_5]) (t := 35) ?hr ?_; (case hd => rfl); (case hg => rfl); (case hr => exact zH101); intro gb221 hg w14 hbox hb; have n_ := zA_ (zb (zr zG61 hb)) (zA_ (zb (hbox)) (zA_ (zN1 w.heap.size hg (zq zG61)) (zN1 w.heap.size hg (zq zG61)))); clear HB; obtain ⟨HB, BK221, GW221, GE221⟩ := n_; clear hb hbox hg) | ((with_reducible refine gate_dst (N := 3) rfl ?_); refine box_event ?hg (N := 3) ?hd (cs := #[.int .i64 a1_0, .int .i64 a1_1, .int .i64 a1_2, .int .i64 a1_3, .string a1_4, .int .i64 a1_5]) (t := 35) ?hr ?_; (case hd => rfl); (case hg => rfl); (case hr => exact zH101); intro gb222 hg w15 hbox hb; have n_ := zA_ (zb (zt (g := gb221) (o := .cells #[.int .i64 a0_0, .int .i64 a0_1, .int .i64 a0_2, .int .i64 a0_3, .string a0_4, .int .i64 a0_5] 35 (0, 0)) zG66 hb)) (zA_ (zb (zr zG58 hb)) (zA_ (zb (hbox)) (zA_ (zN1 w.heap.size hg (zq zG58)) (zA_ (zN1 w.heap.size hg (zq zG58)) (zN2 hg (zaa (g := gb221) (o := .cells #[.int .i64 a0_0, .int .i64 a0_1, .int .i64 a0_2, .int .i64 a0_3, .string a0_4, .int .i64 a0_5] 35 (0, 0)) zG66)))))); clear BK221 HB; obtain ⟨BK221, HB, BK222, GW222, GE222, NB221_222, NB222_221⟩ := n_; clear hb hbox hg; have hnb16 := NB221_222.out; have hnc16 := NB222_221.out; have hcz17_0 : w15.cell? ⟨gb221, 0, none⟩ = some (.int .i64 a0_0) := (q13a BK221.out 0).trans rfl; have hcz17_1 : w15.cell? ⟨gb221, 1, none⟩ = some (.int .i64 a0_1) := (q13a BK221.out 1).trans rfl; have hcz17_2 : w15.cell? ⟨gb221, 2, none⟩ = some (.int .i64 a0_2) := (q13a BK221.out 2).trans rfl; have hcz17_3 : w15.cell? ⟨gb221, 3, none⟩ = some (.int .i64 a0_3) := (q13a BK221.out 3).trans rfl; have hcz17_4 : w15.cell? ⟨gb221, 4, none⟩ = some (.string a0_4) := (q13a BK221.out 4).trans rfl; have hcz17_5 : w15.cell? ⟨gb221, 5, none⟩ = some (.int .i64 a0_5) := (q13a BK221.out 5).trans rfl; have hfz17_0 := zd BK221.out 0; have hfz17_1 := zd BK221.out 1; have hfz17_2 := zd BK221.out 2; have hfz17_3 := zd BK221.out 3; have hfz17_4 := zd BK221.out 4; have hfz17_5 := zd BK221.out 5; have hcz18_0 : w15.cell? ⟨gb222, 0, none⟩ = some (.int .i64 a1_0) := (q13a BK222.out 0).trans rfl; have hcz18_1 : w15.cell? ⟨gb222, 1, none⟩ = some (.int .i64 a1_1) := (q13a BK222.out 1).trans rfl; have hcz18_2 : w15.cell? ⟨gb222, 2, none⟩ = some (.int .i64 a1_2) := (q13a BK222.out 2).trans rfl; have hcz18_3 : w15.cell? ⟨gb222, 3, none⟩ = some (.int .i64 a1_3) := (q13a BK222.out 3).trans rfl; have hcz18_4 : w15.cell? ⟨gb222, 4, none⟩ = some (.string a1_4) := (q13a BK222.out 4).trans rfl; have hcz18_5 : w15.cell? ⟨gb222, 5, none⟩ = some (.int .i64 a1_5) := (q13a BK222.out 5).trans rfl; have hfz18_0 := zd BK222.out 0; have hfz18_1 := zd BK222.out 1; have hfz18_2 := zd BK222.out 2; have hfz18_3 := zd BK222.out 3; have hfz18_4 := zd BK222.out 4; have hfz18_5 := zd BK222.out 5))
  go_ret
  exact zH24
 rw [if_pos c8] at H
 have c8b0 : (a0_5 == a1_5) = true := beq_iff_eq.mpr c8
 have c8b1 : (a0_5 != a1_5) = false := bne_eq_false_iff_eq.mpr c8
 clear c8
 obtain rfl := Option.some.inj H
 go_enter Try.func35, Try.ntmps35
 go_wp2_with (first | ((with_reducible refine gate_dst (N := 2) rfl ?_); refine box_event ?hg (N := 2) ?hd (cs := #[.int .i64 a0_0, .int .i64 a0_1, .int .i64 a0_2, .int .i64 a0_3, .string a0_4, .int .i64 a0_5]) (t := 35) ?hr ?_; (case hd => rfl); (case hg => rfl); (case hr => exact zH101); intro gb221 hg w9 hbox hb; have n_ := zA_ (zb (zr zG61 hb)) (zA_ (zb (hbox)) (zA_ (zN1 w.heap.size hg (zq zG61)) (zN1 w.heap.size hg (zq zG61)))); clear HB; obtain ⟨HB, BK221, GW221, GE221⟩ := n_; clear hb hbox hg) | ((with_reducible refine gate_dst (N := 3) rfl ?_); refine box_event ?hg (N := 3) ?hd (cs := #[.int .i64 a1_0, .int .i64 a1_1, .int .i64 a1_2, .int .i64 a1_3, .string a1_4, .int .i64 a1_5]) (t := 35) ?hr ?_; (case hd => rfl); (case hg => rfl); (case hr => exact zH101); intro gb222 hg w10 hbox hb; have n_ := zA_ (zb (zt (g := gb221) (o := .cells #[.int .i64 a0_0, .int .i64 a0_1, .int .i64 a0_2, .int .i64 a0_3, .string a0_4, .int .i64 a0_5] 35 (0, 0)) zG66 hb)) (zA_ (zb (zr zG58 hb)) (zA_ (zb (hbox)) (zA_ (zN1 w.heap.size hg (zq zG58)) (zA_ (zN1 w.heap.size hg (zq zG58)) (zN2 hg (zaa (g := gb221) (o := .cells #[.int .i64 a0_0, .int .i64 a0_1, .int .i64 a0_2, .int .i64 a0_3, .string a0_4, .int .i64 a0_5] 35 (0, 0)) zG66)))))); clear BK221 HB; obtain ⟨BK221, HB, BK222, GW222, GE222, NB221_222, NB222_221⟩ := n_; clear hb hbox hg; have hnb11 := NB221_222.out; have hnc11 := NB222_221.out; have hcz12_0 : w10.cell? ⟨gb221, 0, none⟩ = some (.int .i64 a0_0) := (q13a BK221.out 0).trans rfl; have hcz12_1 : w10.cell? ⟨gb221, 1, none⟩ = some (.int .i64 a0_1) := (q13a BK221.out 1).trans rfl; have hcz12_2 : w10.cell? ⟨gb221, 2, none⟩ = some (.int .i64 a0_2) := (q13a BK221.out 2).trans rfl; have hcz12_3 : w10.cell? ⟨gb221, 3, none⟩ = some (.int .i64 a0_3) := (q13a BK221.out 3).trans rfl; have hcz12_4 : w10.cell? ⟨gb221, 4, none⟩ = some (.string a0_4) := (q13a BK221.out 4).trans rfl; have hcz12_5 : w10.cell? ⟨gb221, 5, none⟩ = some (.int .i64 a0_5) := (q13a BK221.out 5).trans rfl; have hfz12_0 := zd BK221.out 0; have hfz12_1 := zd BK221.out 1; have hfz12_2 := zd BK221.out 2; have hfz12_3 := zd BK221.out 3; have hfz12_4 := zd BK221.out 4; have hfz12_5 := zd BK221.out 5; have hcz13_0 : w10.cell? ⟨gb222, 0, none⟩ = some (.int .i64 a1_0) := (q13a BK222.out 0).trans rfl; have hcz13_1 : w10.cell? ⟨gb222, 1, none⟩ = some (.int .i64 a1_1) := (q13a BK222.out 1).trans rfl; have hcz13_2 : w10.cell? ⟨gb222, 2, none⟩ = some (.int .i64 a1_2) := (q13a BK222.out 2).trans rfl; have hcz13_3 : w10.cell? ⟨gb222, 3, none⟩ = some (.int .i64 a1_3) := (q13a BK222.out 3).trans rfl; have hcz13_4 : w10.cell? ⟨gb222, 4, none⟩ = some (.string a1_4) := (q13a BK222.out 4).trans rfl; have hcz13_5 : w10.cell? ⟨gb222, 5, none⟩ = some (.int .i64 a1_5) := (q13a BK222.out 5).trans rfl; have hfz13_0 := zd BK222.out 0; have hfz13_1 := zd BK222.out 1; have hfz13_2 := zd BK222.out 2; have hfz13_3 := zd BK222.out 3; have hfz13_4 := zd BK222.out 4; have hfz13_5 := zd BK222.out 5))
 go_ret
 exact zH24
/-! ### laws_eqEventS: function 14 -/
def laws_eqEventS.l0 : Nat → List (S35) → List (S35) → Int → Option (Bool)
 | 0, _, _, _ => none
 | k + 1, x0, x1, x5 => if x5 < (x0.length : Int) then (if 0 ≤ x5 then (if x5 < (x1.length : Int) then ((laws_eqEvent.f ((rd_T35 x0 x5).f0) ((rd_T35 x0 x5).f1) ((rd_T35 x0 x5).f2) ((rd_T35 x0 x5).f3) ((rd_T35 x0 x5).f4) ((rd_T35 x0 x5).f5) ((rd_T35 x1 x5).f0) ((rd_T35 x1 x5).f1) ((rd_T35 x1 x5).f2) ((rd_T35 x1 x5).f3) ((rd_T35 x1 x5).f4) ((rd_T35 x1 x5).f5)).bind fun t225 => (if t225 = true then (laws_eqEventS.l0 k x0 x1 (wrap64 (x5 + 1))) else (some false))) else (none)) else (none)) else (some true)
def laws_eqEventS.f (k : Nat) (l0 : List (S35)) (l1 : List (S35)) : Option (Bool) := if (l0.length : Int) = (l1.length : Int) then (laws_eqEventS.l0 k l0 l1 0) else (some false)
theorem laws_eqEventS.mono_l : ∀ k, (∀ y0 y1 y2, LeO (laws_eqEventS.l0 k y0 y1 y2) (laws_eqEventS.l0 (k + 1) y0 y1 y2))
 | 0 => fun _ _ _ r h => by simp [laws_eqEventS.l0] at h
 | k + 1 => by
  have ih0 := laws_eqEventS.mono_l k
  ·intro y0 y1 y2
   unfold laws_eqEventS.l0
   repeat' first
   | (with_reducible exact ih0 _ _ _)
   | (with_reducible exact LeO.refl _)
   | (with_reducible exact LeO.none _)
   | (with_reducible refine LeO.ite ?_ ?_)
   | (with_reducible refine LeO.bind ?_ (fun _ => ?_))
   | exact ih0 _ _ _
   | exact LeO.none _
   | refine LeO.ite ?_ ?_
   | refine LeO.bind ?_ (fun _ => ?_)
theorem laws_eqEventS.mono : ∀ a0 a1 k, LeO (laws_eqEventS.f k a0 a1) (laws_eqEventS.f (k + 1) a0 a1) := by
 intro a0 a1 k
 have ih0 := laws_eqEventS.mono_l k
 unfold laws_eqEventS.f
 repeat' first
   | (with_reducible exact ih0 _ _ _)
   | (with_reducible exact LeO.refl _)
   | (with_reducible exact LeO.none _)
   | (with_reducible refine LeO.ite ?_ ?_)
   | (with_reducible refine LeO.bind ?_ (fun _ => ?_))
   | exact ih0 _ _ _
   | exact LeO.none _
   | refine LeO.ite ?_ ?_
   | refine LeO.bind ?_ (fun _ => ?_)
def laws_eqEventS.T6 : Bool × List (List Nat × List Nat) := (true, [([], []), ([], []), ([0, 1], [0, 1]), ([2], [2]), ([], []), ([], []), ([4, 5], [4, 5]), ([6], [6]), ([3, 7], [3, 7]), ([8], [8])])
def laws_eqEventS.B6 : List Nat := [0, 0, 3, 7, 0, 0, 48, 112, 255, 511]
theorem laws_eqEventS.tab6 : rtab .any (opsOf Try.f14 6) = laws_eqEventS.T6 := by kernel_rfl
theorem laws_eqEventS.bits6 : waitsOk laws_eqEventS.T6.2 laws_eqEventS.B6 = true := by kernel_rfl
set_option maxHeartbeats 64000000 in
set_option maxRecDepth 100000 in
theorem laws_eqEventS.calls (k : Nat) (A0 : Option Addr) (c0 : Nat) (l0 : List (S35)) (A1 : Option Addr) (c1 : Nat) (l1 : List (S35)) (r : Bool) (w : World) (hr0 : Kd.C k35 w A0 l0.length l0) (hc0 : l0.length ≤ c0) (hr1 : Kd.C k35 w A1 l1.length l1) (hc1 : l1.length ≤ c1) (h : laws_eqEventS.f k l0 l1 = some r) :
  Calls Try.prog 14 #[.slice A0 l0.length c0, .slice A1 l1.length c1] w fun e w' => e = .returned (.bool r) ∧ Below w.heap.size w w' := by
 have hu35 := Try.underlying35
 obtain ⟨HR0, HC0, HR1, HC1, HB⟩ := zD5 hr0 hc0 hr1 hc1 (Below.refl w.heap.size w)
 clear hr0 hc0 hr1 hc1
 have H : (if (l0.length : Int) = (l1.length : Int) then (laws_eqEventS.l0 k l0 l1 0) else (some false)) = some r := h
 clear h
 by_cases c3 : (l0.length : Int) = (l1.length : Int)
 rotate_left
 ·rw [if_neg c3] at H
  have c3b0 : ((l0.length : Int) == (l1.length : Int)) = false := beq_eq_false_iff_ne.mpr c3
  have c3b1 : ((l0.length : Int) != (l1.length : Int)) = true := bne_iff_ne.mpr c3
  have c3b2 : (l0.length == l1.length) = false := by first | simpa using c3 | (simp at c3 ⊢; omega)
  obtain rfl := Option.some.inj H
  go_enter Try.func14, Try.ntmps14
  go_wp2
  go_ret
  exact zH32

 rw [if_pos c3] at H
 have c3b0 : ((l0.length : Int) == (l1.length : Int)) = true := beq_iff_eq.mpr c3
 have c3b1 : ((l0.length : Int) != (l1.length : Int)) = false := bne_eq_false_iff_eq.mpr c3
 have c3b2 : (l0.length == l1.length) = true := by first | simpa using c3 | (simp at c3 ⊢; omega)
 clear c3
 have H' := zb H
 clear H
 go_enter Try.func14, Try.ntmps14
 go_wp2
 go_loopg [5] k (fun kq v5 w' => ∃ (x5_1 : Int), v5 = .int .i64 x5_1 ∧ Aside0 (laws_eqEventS.l0 kq l0 l1 x5_1 = some r) ∧ Aside0 (kq ≤ k) ∧ Aside0 (Below w.heap.size w w'))
 case atStart => exact ⟨(0), zG74, H', ⟨Nat.le_refl _⟩, ⟨zH82⟩⟩
 case round =>
  clear H'
  try clear c1
  try clear c3
  try clear c3b0
  try clear c3b1
  try clear c3b2
  obtain ⟨x5_1, rfl, HA, HK1, HB⟩ := hrel
  cases gk with
  | zero => exact absurd HA.out (by simp [laws_eqEventS.l0])
  | succ k1 =>
   have H := HA.out
   clear HA
   simp only [laws_eqEventS.l0] at H
   by_cases c4 : x5_1 < (l0.length : Int)
   rotate_left
   ·rw [if_neg c4] at H
    have c4b0 := decide_eq_false c4
    clear c4
    obtain rfl := Option.some.inj H
    go_wp2
    go_ret
    exact zH32
   rw [if_pos c4] at H
   have c4b0 := decide_eq_true c4
   clear c4
   by_cases c5 : 0 ≤ x5_1
   rotate_left
   ·rw [if_neg c5] at H
    exact absurd H (by simp)
   rw [if_pos c5] at H
   have c5b0 := decide_eq_true c5
   clear c5
   by_cases c6 : x5_1 < (l1.length : Int)
   rotate_left
   ·rw [if_neg c6] at H
    exact absurd H (by simp)
   rw [if_pos c6] at H
   have c6b0 := decide_eq_true c6
   clear c6
   replace H := Option.bind_eq_some_iff.mp H
   obtain ⟨t225, A70, H⟩ := H
   replace H : (if t225 = true then (laws_eqEventS.l0 k1 l0 l1 (wrap64 (x5_1 + 1))) else (some false)) = some r := H
   have A7 := zb A70
   clear A70
   by_cases c8 : t225 = true
   rotate_left
   ·replace c8 := Bool.eq_false_iff.mpr c8
    subst c8
    have H1 : (some false) = some r := by rw [if_neg (show ¬ (false = true) by decide)] at H; exact H
    clear H
    have H := H1
    clear H1
    obtain rfl := Option.some.inj H
    try go_wp2
    have n0_ := zb (ze HB.out)
    clear HB
    have HB := n0_
    clear n0_
    have p223 : 0 ≤ (x5_1 : Int) := zO
    have q223 : x5_1 < (l0.length : Int) := zO
    obtain ⟨ad223, e223, hx223_0, hx223_1, hx223_2, hx223_3, hx223_4, hx223_5⟩ := at_T35 HR0.out x5_1 p223 q223
    have hw223_5 := hx223_5
    have hw223_4 := hx223_4
    have hw223_3 := hx223_3
    have hw223_2 := hx223_2
    have hw223_1 := hx223_1
    have hw223_0 := hx223_0
    cases e223
    replace hx223_0 := (HB.out.cell (za w _ hx223_0)).trans hx223_0
    replace hx223_1 := (HB.out.cell (za w _ hx223_1)).trans hx223_1
    replace hx223_2 := (HB.out.cell (za w _ hx223_2)).trans hx223_2
    replace hx223_3 := (HB.out.cell (za w _ hx223_3)).trans hx223_3
    replace hx223_4 := (HB.out.cell (za w _ hx223_4)).trans hx223_4
    replace hx223_5 := (HB.out.cell (za w _ hx223_5)).trans hx223_5
    replace p223 := eq_true p223
    replace q223 := eq_true q223
    have p224 : 0 ≤ (x5_1 : Int) := zO
    have q224 : x5_1 < (l1.length : Int) := zO
    obtain ⟨ad224, e224, hx224_0, hx224_1, hx224_2, hx224_3, hx224_4, hx224_5⟩ := at_T35 HR1.out x5_1 p224 q224
    have hw224_5 := hx224_5
    have hw224_4 := hx224_4
    have hw224_3 := hx224_3
    have hw224_2 := hx224_2
    have hw224_1 := hx224_1
    have hw224_0 := hx224_0
    cases e224
    replace hx224_0 := (HB.out.cell (za w _ hx224_0)).trans hx224_0
    replace hx224_1 := (HB.out.cell (za w _ hx224_1)).trans hx224_1
    replace hx224_2 := (HB.out.cell (za w _ hx224_2)).trans hx224_2
    replace hx224_3 := (HB.out.cell (za w _ hx224_3)).trans hx224_3
    replace hx224_4 := (HB.out.cell (za w _ hx224_4)).trans hx224_4
    replace hx224_5 := (HB.out.cell (za w _ hx224_5)).trans hx224_5
    replace p224 := eq_true p224
    replace q224 := eq_true q224
    refine start_ (n := 10) (S := fun w' => w'.cell? (ad223.add ((x5_1).toNat * 6)) = some (.int .i64 ((rd_T35 l0 x5_1).f0)) ∧ w'.cell? ⟨(ad223.add ((x5_1).toNat * 6)).block, (ad223.add ((x5_1).toNat * 6)).off + 1, none⟩ = some (.int .i64 ((rd_T35 l0 x5_1).f1)) ∧ w'.cell? ⟨(ad223.add ((x5_1).toNat * 6)).block, (ad223.add ((x5_1).toNat * 6)).off + 2, none⟩ = some (.int .i64 ((rd_T35 l0 x5_1).f2)) ∧ w'.cell? ⟨(ad223.add ((x5_1).toNat * 6)).block, (ad223.add ((x5_1).toNat * 6)).off + 3, none⟩ = some (.int .i64 ((rd_T35 l0 x5_1).f3)) ∧ w'.cell? ⟨(ad223.add ((x5_1).toNat * 6)).block, (ad223.add ((x5_1).toNat * 6)).off + 4, none⟩ = some (.string ((rd_T35 l0 x5_1).f4)) ∧ w'.cell? ⟨(ad223.add ((x5_1).toNat * 6)).block, (ad223.add ((x5_1).toNat * 6)).off + 5, none⟩ = some (.int .i64 ((rd_T35 l0 x5_1).f5)) ∧ w'.cell? (ad224.add ((x5_1).toNat * 6)) = some (.int .i64 ((rd_T35 l1 x5_1).f0)) ∧ w'.cell? ⟨(ad224.add ((x5_1).toNat * 6)).block, (ad224.add ((x5_1).toNat * 6)).off + 1, none⟩ = some (.int .i64 ((rd_T35 l1 x5_1).f1)) ∧ w'.cell? ⟨(ad224.add ((x5_1).toNat * 6)).block, (ad224.add ((x5_1).toNat * 6)).off + 2, none⟩ = some (.int .i64 ((rd_T35 l1 x5_1).f2)) ∧ w'.cell? ⟨(ad224.add ((x5_1).toNat * 6)).block, (ad224.add ((x5_1).toNat * 6)).off + 3, none⟩ = some (.int .i64 ((rd_T35 l1 x5_1).f3)) ∧ w'.cell? ⟨(ad224.add ((x5_1).toNat * 6)).block, (ad224.add ((x5_1).toNat * 6)).off + 4, none⟩ = some (.string ((rd_T35 l1 x5_1).f4)) ∧ w'.cell? ⟨(ad224.add ((x5_1).toNat * 6)).block, (ad224.add ((x5_1).toNat * 6)).off + 5, none⟩ = some (.int .i64 ((rd_T35 l1 x5_1).f5))) (ds := []) b13A0 zG75 rfl rfl ⟨((HB.out.cell (za w _ hw223_0)).trans hw223_0), ((HB.out.cell (za w _ hw223_1)).trans hw223_1), ((HB.out.cell (za w _ hw223_2)).trans hw223_2), ((HB.out.cell (za w _ hw223_3)).trans hw223_3), ((HB.out.cell (za w _ hw223_4)).trans hw223_4), ((HB.out.cell (za w _ hw223_5)).trans hw223_5), ((HB.out.cell (za w _ hw224_0)).trans hw224_0), ((HB.out.cell (za w _ hw224_1)).trans hw224_1), ((HB.out.cell (za w _ hw224_2)).trans hw224_2), ((HB.out.cell (za w _ hw224_3)).trans hw224_3), ((HB.out.cell (za w _ hw224_4)).trans hw224_4), ((HB.out.cell (za w _ hw224_5)).trans hw224_5)⟩ (fun hHeld => ?_); refine with_tabW laws_eqEventS.tab6 laws_eqEventS.bits6 (fun HT_ HW_ => ?_)
    generalize wr.drew = w11 at HB hx223_0 hx223_1 hx223_2 hx223_3 hx223_4 hx223_5 hx224_0 hx224_1 hx224_2 hx224_3 hx224_4 hx224_5 hHeld ⊢
    refine zP 0 17 b13A1 HT_ ?_
    refine zP 1 18 b13A2 HT_ ?_
    refine zP 2 19 b13A3 HT_ ?_
    refine zP 4 21 b13A4 HT_ ?_
    refine zP 5 22 b13A5 HT_ ?_
    refine zP 6 23 b13A6 HT_ ?_
    refine zQ 3 20 b13A7 HT_ HW_ hHeld ?_
    refine zQ 7 24 b13A8 HT_ HW_ hHeld ?_
    refine one_ (i := 8) (N := some 25) b13A9 rfl rfl (one_of HT_.out zG75) zG76 (fun K hK => ?_)
    refine goes_ Try.func35 zG75 rfl #[.agg #[.int .i64 ((rd_T35 l0 x5_1).f0), .int .i64 ((rd_T35 l0 x5_1).f1), .int .i64 ((rd_T35 l0 x5_1).f2), .int .i64 ((rd_T35 l0 x5_1).f3), .string ((rd_T35 l0 x5_1).f4), .int .i64 ((rd_T35 l0 x5_1).f5)], .agg #[.int .i64 ((rd_T35 l1 x5_1).f0), .int .i64 ((rd_T35 l1 x5_1).f1), .int .i64 ((rd_T35 l1 x5_1).f2), .int .i64 ((rd_T35 l1 x5_1).f3), .string ((rd_T35 l1 x5_1).f4), .int .i64 ((rd_T35 l1 x5_1).f5)]] (by rfl) rfl rfl zG55 ?_
    with_reducible refine (laws_eqEvent.calls ((rd_T35 l0 x5_1).f0) ((rd_T35 l0 x5_1).f1) ((rd_T35 l0 x5_1).f2) ((rd_T35 l0 x5_1).f3) ((rd_T35 l0 x5_1).f4) ((rd_T35 l0 x5_1).f5) ((rd_T35 l1 x5_1).f0) ((rd_T35 l1 x5_1).f1) ((rd_T35 l1 x5_1).f2) ((rd_T35 l1 x5_1).f3) ((rd_T35 l1 x5_1).f4) ((rd_T35 l1 x5_1).f5) false _ A7.out).mono ?_
    rintro e w12 ⟨rfl, hb⟩
    refine ⟨_, rfl, ?_⟩
    have n0_ := zb (zr zG61 hb)
    clear HB
    have HB := n0_
    clear n0_
    (try clear hb)
    (try clear hb2)
    (try clear hk)
    (try clear hi)
    refine hK.out _ _ ⟨((HB.out.cell (za w _ hw223_0)).trans hw223_0), ((HB.out.cell (za w _ hw223_1)).trans hw223_1), ((HB.out.cell (za w _ hw223_2)).trans hw223_2), ((HB.out.cell (za w _ hw223_3)).trans hw223_3), ((HB.out.cell (za w _ hw223_4)).trans hw223_4), ((HB.out.cell (za w _ hw223_5)).trans hw223_5), ((HB.out.cell (za w _ hw224_0)).trans hw224_0), ((HB.out.cell (za w _ hw224_1)).trans hw224_1), ((HB.out.cell (za w _ hw224_2)).trans hw224_2), ((HB.out.cell (za w _ hw224_3)).trans hw224_3), ((HB.out.cell (za w _ hw224_4)).trans hw224_4), ((HB.out.cell (za w _ hw224_5)).trans hw224_5)⟩ (fun hHeld => ?_)
    clear hK K
    refine norm_ (a' := ?_) ?_ ?_
    rotate_left
    ·show Act.put _ (some 25) _ = _
     simp only [Act.put, List.setIfInBounds_toArray, List.set_cons_zero, List.set_cons_succ, i64_w, i32_w]
     rfl
    refine zP 9 26 b13A10 HT_ ?_
    refine done_ (done_of HT_.out zG75) ?_
    try go_wp2
    go_ret
    exact zH32
   subst c8
   have H1 : (laws_eqEventS.l0 k1 l0 l1 (wrap64 (x5_1 + 1))) = some r := by rw [if_pos rfl] at H; exact H
   clear H
   have H := H1
   clear H1
   have H' := zb H
   clear H
   try go_wp2
   have n0_ := zb (ze HB.out)
   clear HB
   have HB := n0_
   clear n0_
   have p223 : 0 ≤ (x5_1 : Int) := zO
   have q223 : x5_1 < (l0.length : Int) := zO
   obtain ⟨ad223, e223, hx223_0, hx223_1, hx223_2, hx223_3, hx223_4, hx223_5⟩ := at_T35 HR0.out x5_1 p223 q223
   have hw223_5 := hx223_5
   have hw223_4 := hx223_4
   have hw223_3 := hx223_3
   have hw223_2 := hx223_2
   have hw223_1 := hx223_1
   have hw223_0 := hx223_0
   cases e223
   replace hx223_0 := (HB.out.cell (za w _ hx223_0)).trans hx223_0
   replace hx223_1 := (HB.out.cell (za w _ hx223_1)).trans hx223_1
   replace hx223_2 := (HB.out.cell (za w _ hx223_2)).trans hx223_2
   replace hx223_3 := (HB.out.cell (za w _ hx223_3)).trans hx223_3
   replace hx223_4 := (HB.out.cell (za w _ hx223_4)).trans hx223_4
   replace hx223_5 := (HB.out.cell (za w _ hx223_5)).trans hx223_5
   replace p223 := eq_true p223
   replace q223 := eq_true q223
   have p224 : 0 ≤ (x5_1 : Int) := zO
   have q224 : x5_1 < (l1.length : Int) := zO
   obtain ⟨ad224, e224, hx224_0, hx224_1, hx224_2, hx224_3, hx224_4, hx224_5⟩ := at_T35 HR1.out x5_1 p224 q224
   have hw224_5 := hx224_5
   have hw224_4 := hx224_4
   have hw224_3 := hx224_3
   have hw224_2 := hx224_2
   have hw224_1 := hx224_1
   have hw224_0 := hx224_0
   cases e224
   replace hx224_0 := (HB.out.cell (za w _ hx224_0)).trans hx224_0
   replace hx224_1 := (HB.out.cell (za w _ hx224_1)).trans hx224_1
   replace hx224_2 := (HB.out.cell (za w _ hx224_2)).trans hx224_2
   replace hx224_3 := (HB.out.cell (za w _ hx224_3)).trans hx224_3
   replace hx224_4 := (HB.out.cell (za w _ hx224_4)).trans hx224_4
   replace hx224_5 := (HB.out.cell (za w _ hx224_5)).trans hx224_5
   replace p224 := eq_true p224
   replace q224 := eq_true q224
   refine start_ (n := 10) (S := fun w' => w'.cell? (ad223.add ((x5_1).toNat * 6)) = some (.int .i64 ((rd_T35 l0 x5_1).f0)) ∧ w'.cell? ⟨(ad223.add ((x5_1).toNat * 6)).block, (ad223.add ((x5_1).toNat * 6)).off + 1, none⟩ = some (.int .i64 ((rd_T35 l0 x5_1).f1)) ∧ w'.cell? ⟨(ad223.add ((x5_1).toNat * 6)).block, (ad223.add ((x5_1).toNat * 6)).off + 2, none⟩ = some (.int .i64 ((rd_T35 l0 x5_1).f2)) ∧ w'.cell? ⟨(ad223.add ((x5_1).toNat * 6)).block, (ad223.add ((x5_1).toNat * 6)).off + 3, none⟩ = some (.int .i64 ((rd_T35 l0 x5_1).f3)) ∧ w'.cell? ⟨(ad223.add ((x5_1).toNat * 6)).block, (ad223.add ((x5_1).toNat * 6)).off + 4, none⟩ = some (.string ((rd_T35 l0 x5_1).f4)) ∧ w'.cell? ⟨(ad223.add ((x5_1).toNat * 6)).block, (ad223.add ((x5_1).toNat * 6)).off + 5, none⟩ = some (.int .i64 ((rd_T35 l0 x5_1).f5)) ∧ w'.cell? (ad224.add ((x5_1).toNat * 6)) = some (.int .i64 ((rd_T35 l1 x5_1).f0)) ∧ w'.cell? ⟨(ad224.add ((x5_1).toNat * 6)).block, (ad224.add ((x5_1).toNat * 6)).off + 1, none⟩ = some (.int .i64 ((rd_T35 l1 x5_1).f1)) ∧ w'.cell? ⟨(ad224.add ((x5_1).toNat * 6)).block, (ad224.add ((x5_1).toNat * 6)).off + 2, none⟩ = some (.int .i64 ((rd_T35 l1 x5_1).f2)) ∧ w'.cell? ⟨(ad224.add ((x5_1).toNat * 6)).block, (ad224.add ((x5_1).toNat * 6)).off + 3, none⟩ = some (.int .i64 ((rd_T35 l1 x5_1).f3)) ∧ w'.cell? ⟨(ad224.add ((x5_1).toNat * 6)).block, (ad224.add ((x5_1).toNat * 6)).off + 4, none⟩ = some (.string ((rd_T35 l1 x5_1).f4)) ∧ w'.cell? ⟨(ad224.add ((x5_1).toNat * 6)).block, (ad224.add ((x5_1).toNat * 6)).off + 5, none⟩ = some (.int .i64 ((rd_T35 l1 x5_1).f5))) (ds := []) b13A0 zG75 rfl rfl ⟨((HB.out.cell (za w _ hw223_0)).trans hw223_0), ((HB.out.cell (za w _ hw223_1)).trans hw223_1), ((HB.out.cell (za w _ hw223_2)).trans hw223_2), ((HB.out.cell (za w _ hw223_3)).trans hw223_3), ((HB.out.cell (za w _ hw223_4)).trans hw223_4), ((HB.out.cell (za w _ hw223_5)).trans hw223_5), ((HB.out.cell (za w _ hw224_0)).trans hw224_0), ((HB.out.cell (za w _ hw224_1)).trans hw224_1), ((HB.out.cell (za w _ hw224_2)).trans hw224_2), ((HB.out.cell (za w _ hw224_3)).trans hw224_3), ((HB.out.cell (za w _ hw224_4)).trans hw224_4), ((HB.out.cell (za w _ hw224_5)).trans hw224_5)⟩ (fun hHeld => ?_); refine with_tabW laws_eqEventS.tab6 laws_eqEventS.bits6 (fun HT_ HW_ => ?_)
   generalize wr.drew = w9 at HB hx223_0 hx223_1 hx223_2 hx223_3 hx223_4 hx223_5 hx224_0 hx224_1 hx224_2 hx224_3 hx224_4 hx224_5 hHeld ⊢
   refine zP 0 17 b13A1 HT_ ?_
   refine zP 1 18 b13A2 HT_ ?_
   refine zP 2 19 b13A3 HT_ ?_
   refine zP 4 21 b13A4 HT_ ?_
   refine zP 5 22 b13A5 HT_ ?_
   refine zP 6 23 b13A6 HT_ ?_
   refine zQ 3 20 b13A7 HT_ HW_ hHeld ?_
   refine zQ 7 24 b13A8 HT_ HW_ hHeld ?_
   refine one_ (i := 8) (N := some 25) b13A9 rfl rfl (one_of HT_.out zG75) zG76 (fun K hK => ?_)
   refine goes_ Try.func35 zG75 rfl #[.agg #[.int .i64 ((rd_T35 l0 x5_1).f0), .int .i64 ((rd_T35 l0 x5_1).f1), .int .i64 ((rd_T35 l0 x5_1).f2), .int .i64 ((rd_T35 l0 x5_1).f3), .string ((rd_T35 l0 x5_1).f4), .int .i64 ((rd_T35 l0 x5_1).f5)], .agg #[.int .i64 ((rd_T35 l1 x5_1).f0), .int .i64 ((rd_T35 l1 x5_1).f1), .int .i64 ((rd_T35 l1 x5_1).f2), .int .i64 ((rd_T35 l1 x5_1).f3), .string ((rd_T35 l1 x5_1).f4), .int .i64 ((rd_T35 l1 x5_1).f5)]] (by rfl) rfl rfl zG55 ?_
   with_reducible refine (laws_eqEvent.calls ((rd_T35 l0 x5_1).f0) ((rd_T35 l0 x5_1).f1) ((rd_T35 l0 x5_1).f2) ((rd_T35 l0 x5_1).f3) ((rd_T35 l0 x5_1).f4) ((rd_T35 l0 x5_1).f5) ((rd_T35 l1 x5_1).f0) ((rd_T35 l1 x5_1).f1) ((rd_T35 l1 x5_1).f2) ((rd_T35 l1 x5_1).f3) ((rd_T35 l1 x5_1).f4) ((rd_T35 l1 x5_1).f5) true _ A7.out).mono ?_
   rintro e w10 ⟨rfl, hb⟩
   refine ⟨_, rfl, ?_⟩
   have n0_ := zb (zr zG61 hb)
   clear HB
   have HB := n0_
   clear n0_
   (try clear hb)
   (try clear hb2)
   (try clear hk)
   (try clear hi)
   refine hK.out _ _ ⟨((HB.out.cell (za w _ hw223_0)).trans hw223_0), ((HB.out.cell (za w _ hw223_1)).trans hw223_1), ((HB.out.cell (za w _ hw223_2)).trans hw223_2), ((HB.out.cell (za w _ hw223_3)).trans hw223_3), ((HB.out.cell (za w _ hw223_4)).trans hw223_4), ((HB.out.cell (za w _ hw223_5)).trans hw223_5), ((HB.out.cell (za w _ hw224_0)).trans hw224_0), ((HB.out.cell (za w _ hw224_1)).trans hw224_1), ((HB.out.cell (za w _ hw224_2)).trans hw224_2), ((HB.out.cell (za w _ hw224_3)).trans hw224_3), ((HB.out.cell (za w _ hw224_4)).trans hw224_4), ((HB.out.cell (za w _ hw224_5)).trans hw224_5)⟩ (fun hHeld => ?_)
   clear hK K
   refine norm_ (a' := ?_) ?_ ?_
   rotate_left
   ·show Act.put _ (some 25) _ = _
    simp only [Act.put, List.setIfInBounds_toArray, List.set_cons_zero, List.set_cons_succ, i64_w, i32_w]
    rfl
   refine zP 9 26 b13A10 HT_ ?_
   refine done_ (done_of HT_.out zG75) ?_
   try go_wp2
   go_roundg k1
   case measure => have := HK1.out; omega
   case rel => exact ⟨(wrap64 (x5_1 + 1)), zG74, H', ⟨zH106⟩, ⟨zH82⟩⟩
/-! ### laws_markText: function 36 -/
def laws_markText.l0 : Nat → Int → ByteArray → Option (ByteArray)
 | 0, _, _ => none
 | k + 1, x0, x3 => if x0 > 0 then ((some (([(wrap64 (48 + (Int.tmod x0 10))) % 256] : List Int) : List Int)).bind fun y226 => (if (strOfNums y226).size + x3.size ≤ 9223372036854775807 then (laws_markText.l0 k (wrap64 (Int.tdiv x0 10)) ((strOfNums y226) ++ x3)) else (none))) else (if 1 + x3.size ≤ 9223372036854775807 then (some ((⟨#[109]⟩ : ByteArray) ++ x3)) else (none))
def laws_markText.f (k : Nat) (a0 : Int) : Option (ByteArray) := if a0 ≤ 0 then (some (⟨#[109, 48]⟩ : ByteArray)) else (laws_markText.l0 k a0 (⟨#[]⟩ : ByteArray))
theorem laws_markText.mono_l : ∀ k, (∀ y0 y1, LeO (laws_markText.l0 k y0 y1) (laws_markText.l0 (k + 1) y0 y1))
 | 0 => fun _ _ r h => by simp [laws_markText.l0] at h
 | k + 1 => by
  have ih0 := laws_markText.mono_l k
  ·intro y0 y1
   unfold laws_markText.l0
   repeat' first
   | (with_reducible exact ih0 _ _)
   | (with_reducible exact LeO.refl _)
   | (with_reducible exact LeO.none _)
   | (with_reducible refine LeO.ite ?_ ?_)
   | (with_reducible refine LeO.bind ?_ (fun _ => ?_))
   | exact ih0 _ _
   | exact LeO.none _
   | refine LeO.ite ?_ ?_
   | refine LeO.bind ?_ (fun _ => ?_)
theorem laws_markText.mono : ∀ a0 k, LeO (laws_markText.f k a0) (laws_markText.f (k + 1) a0) := by
 intro a0 k
 have ih0 := laws_markText.mono_l k
 unfold laws_markText.f
 repeat' first
   | (with_reducible exact ih0 _ _)
   | (with_reducible exact LeO.refl _)
   | (with_reducible exact LeO.none _)
   | (with_reducible refine LeO.ite ?_ ?_)
   | (with_reducible refine LeO.bind ?_ (fun _ => ?_))
   | exact ih0 _ _
   | exact LeO.none _
   | refine LeO.ite ?_ ?_
   | refine LeO.bind ?_ (fun _ => ?_)
set_option maxHeartbeats 64000000 in
set_option maxRecDepth 100000 in
theorem laws_markText.calls (k : Nat) (a0 : Int) (r : ByteArray) (w : World) (h : laws_markText.f k a0 = some r) :
  Calls Try.prog 36 #[.int .i64 a0] w fun e w' => e = .returned (.string r) ∧ Below w.heap.size w w' := by
 have HB := zb (Below.refl w.heap.size w)
 have H : (if a0 ≤ 0 then (some (⟨#[109, 48]⟩ : ByteArray)) else (laws_markText.l0 k a0 (⟨#[]⟩ : ByteArray))) = some r := h
 clear h
 by_cases c2 : a0 ≤ 0
 ·rw [if_pos c2] at H
  have c2b0 := decide_eq_true c2
  clear c2
  obtain rfl := Option.some.inj H
  go_enter Try.func36, Try.ntmps36
  go_wp2
  go_ret
  exact zH32
 rw [if_neg c2] at H
 have c2b0 := decide_eq_false c2
 clear c2
 have H' := zb H
 clear H
 go_enter Try.func36, Try.ntmps36
 go_wp2
 go_loopg [0, 3] k (fun kq v0 v3 w' => ∃ (x0_1 : Int) (x3_1 : ByteArray), v0 = .int .i64 x0_1 ∧ v3 = .string x3_1 ∧ Aside0 (laws_markText.l0 kq x0_1 x3_1 = some r) ∧ Aside0 (kq ≤ k) ∧ Aside0 (Below w.heap.size w w'))
 case atStart => exact ⟨(a0), ((⟨#[]⟩ : ByteArray)), zG74, zG74, H', ⟨Nat.le_refl _⟩, ⟨zH82⟩⟩
 case round =>
  clear H'
  try clear c2
  try clear c2b0
  obtain ⟨x0_1, x3_1, rfl, rfl, HA, HK1, HB⟩ := hrel
  cases gk with
  | zero => exact absurd HA.out (by simp [laws_markText.l0])
  | succ k1 =>
   have H := HA.out
   clear HA
   simp only [laws_markText.l0] at H
   by_cases c3 : x0_1 > 0
   rotate_left
   ·rw [if_neg c3] at H
    have c3b0 : decide (0 < x0_1) = false := decide_eq_false c3
    clear c3
    by_cases c8 : 1 + x3_1.size ≤ 9223372036854775807
    rotate_left
    ·rw [if_neg c8] at H
     exact absurd H (by simp)

    rw [if_pos c8] at H
    have c8b0 := eq_true c8
    have c8b1 := decide_eq_true c8
    try have c8b2 : (9223372036854775807 < 1 + x3_1.size) = False := eq_false (Nat.not_lt.2 c8)
    obtain rfl := Option.some.inj H
    go_wp2
    go_ret
    exact zH32
   rw [if_pos c3] at H
   have c3b0 : decide (0 < x0_1) = true := decide_eq_true c3
   clear c3
   obtain ⟨y226, hy226⟩ : ∃ y_ : List Int, y_ = (([(wrap64 (48 + (Int.tmod x0_1 10))) % 256] : List Int)) := ⟨_, rfl⟩
   replace H : (if (strOfNums y226).size + x3_1.size ≤ 9223372036854775807 then (laws_markText.l0 k1 (wrap64 (Int.tdiv x0_1 10)) ((strOfNums y226) ++ x3_1)) else (none)) = some r := by first | (rw [hy226]; with_reducible exact H) | (have H2_ := (Option.bind_some _ _).symm.trans H; rw [hy226]; with_reducible exact H2_) | (have H2_ := (Option.bind_some _ _).symm.trans H; with_reducible exact H2_) | with_reducible exact H | (rw [hy226]; exact H) | exact H
   have Ny226 := zb hy226
   clear hy226
   by_cases c4 : (strOfNums y226).size + x3_1.size ≤ 9223372036854775807
   rotate_left
   ·rw [if_neg c4] at H
    exact absurd H (by simp)
   rw [if_pos c4] at H
   have c4b0 := eq_true c4
   have c4b1 := decide_eq_true c4
   try have c4b2 : (9223372036854775807 < (strOfNums y226).size + x3_1.size) = False := eq_false (Nat.not_lt.2 c4)
   have H' := zb H
   clear H
   go_wp2_with (first | ((with_reducible refine gate_dst (N := 12) rfl ?_); refine Kd.R_lit (Kd.int .u8) _ 5 ?hg (N := 12) ?hd (xs := ([(wrap64 (48 + (Int.tmod x0_1 10))) % 256] : List Int)) (inner := [.int .u8 ((wrap64 (48 + (Int.tmod x0_1 10))) % 256)]) (ok := fun _ => True) (okp := fun _ => True) ?hr ?hp (fun _ hk => hk) trivial (Below.refl _ _) (Nat.le_refl _) (by simp) ?_; (case hd => rfl); (case hg => rfl); (case hr => exact zH101); (case hp => exact (Reps.one (show Kd.M (Kd.int .u8) _ _ _ ((wrap64 (48 + (Int.tmod x0_1 10))) % 256) [.int .u8 ((wrap64 (48 + (Int.tmod x0_1 10))) % 256)] from rfl) (Reps.none _ _))); intro v227 w5 ho6 hb hg_ hnew_; clear hg_ hnew_; (first | rw [← Ny226.out] at ho6 | (simp only [Int.reduceToNat] at ho6; rw [← Ny226.out] at ho6)); have n_ := zA_ (zb (zah ho6 (zq zG61))) (zb (zr zG61 hb)); clear HB; obtain ⟨HO228, HB⟩ := n_; clear hb ho6; have hcv7 := own_string (P := Try.prog) Try.underlying22 Try.underlying5 Try.underlying9 (Kd.own_of_R HO228.out)))
   go_roundg k1
   case measure => have := HK1.out; omega
   case rel => exact ⟨(wrap64 (Int.tdiv x0_1 10)), ((strOfNums y226) ++ x3_1), zG74, zG74, H', ⟨zH106⟩, ⟨zH82⟩⟩
end Go.Proofs.Ytoibmbkmpadmnaa.G
