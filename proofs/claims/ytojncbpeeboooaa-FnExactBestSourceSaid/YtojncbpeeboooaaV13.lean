-- squeezed
-- made by pp.py (wip/tools) out of the translation; Lean checks it
import Derived.Test.YtojncbpeeboooaaV0
namespace Go.Proofs.Ytojncbpeeboooaa.V
open Go.RowKit Go.Proofs.YtojncbpeeboooaaW.PrintWords Go.Proofs.YtojncbpeeboooaaW.PrintLast Go.Proofs.YtojncbpeeboooaaW.PrintMore
attribute [local go_sem] max2_int min2_int max_two min_two max_three min_three max_four min_four   -- for this text's walks alone
set_option linter.unusedVariables false
set_option linter.unusedSimpArgs false

abbrev b13A0 := zM 10 0
abbrev b13A1 := zM 10 1
abbrev b13A2 := zM 10 3
abbrev b13A3 := zM 10 7
abbrev b13A4 := zM 10 23
abbrev b13A5 := zM 10 55
abbrev b13A6 := zM 10 119
abbrev b13A7 := zM 10 127
abbrev b13A8 := zM 10 255
abbrev b13A9 := zM 10 511
abbrev b13A10 := zM 10 1023
/-! ### laws_eqIntS: function 72 -/
def laws_eqIntS.l0 : Nat → List Int → List Int → Int → Option (Bool)
 | 0, _, _, _ => none
 | k + 1, x0, x1, x5 => if x5 < (x0.length : Int) then (if 0 ≤ x5 then (if x5 < (x1.length : Int) then (if (rd x0 x5) = (rd x1 x5) then (laws_eqIntS.l0 k x0 x1 (wrap64 (x5 + 1))) else (some false)) else (none)) else (none)) else (some true)
def laws_eqIntS.f (k : Nat) (l0 : List Int) (l1 : List Int) : Option (Bool) := if (l0.length : Int) = (l1.length : Int) then (laws_eqIntS.l0 k l0 l1 0) else (some false)
theorem laws_eqIntS.mono_l : ∀ k, (∀ y0 y1 y2, LeO (laws_eqIntS.l0 k y0 y1 y2) (laws_eqIntS.l0 (k + 1) y0 y1 y2))
 | 0 => fun _ _ _ r h => by simp [laws_eqIntS.l0] at h
 | k + 1 => by
  have ih0 := laws_eqIntS.mono_l k
  ·intro y0 y1 y2
   unfold laws_eqIntS.l0
   repeat' first
   | (with_reducible exact ih0 _ _ _)
   | (with_reducible exact LeO.refl _)
   | (with_reducible exact LeO.none _)
   | (with_reducible refine LeO.ite ?_ ?_)
   | (with_reducible refine LeO.bind ?_ (fun _ => ?_))
   | exact ih0 _ _ _
   | exact LeO.none _
   | refine LeO.ite ?_ ?_
   | refine LeO.bind ?_ (fun _ => ?_)
theorem laws_eqIntS.mono : ∀ a0 a1 k, LeO (laws_eqIntS.f k a0 a1) (laws_eqIntS.f (k + 1) a0 a1) := by
 intro a0 a1 k
 have ih0 := laws_eqIntS.mono_l k
 unfold laws_eqIntS.f
 repeat' first
   | (with_reducible exact ih0 _ _ _)
   | (with_reducible exact LeO.refl _)
   | (with_reducible exact LeO.none _)
   | (with_reducible refine LeO.ite ?_ ?_)
   | (with_reducible refine LeO.bind ?_ (fun _ => ?_))
   | exact ih0 _ _ _
   | exact LeO.none _
   | refine LeO.ite ?_ ?_
   | refine LeO.bind ?_ (fun _ => ?_)
set_option maxHeartbeats 64000000 in
set_option maxRecDepth 100000 in
theorem laws_eqIntS.calls (k : Nat) (A0 : Option Addr) (c0 : Nat) (l0 : List Int) (A1 : Option Addr) (c1 : Nat) (l1 : List Int) (r : Bool) (w : World) (hr0 : Kd.C (Kd.int .i64) w A0 l0.length l0) (hc0 : l0.length ≤ c0) (hr1 : Kd.C (Kd.int .i64) w A1 l1.length l1) (hc1 : l1.length ≤ c1) (h : laws_eqIntS.f k l0 l1 = some r) :
  Calls Try.prog 72 #[.slice A0 l0.length c0, .slice A1 l1.length c1] w fun e w' => e = .returned (.bool r) ∧ Drawn0 w w' := by
 obtain ⟨HR0, HC0, HR1, HC1⟩ := zD4 hr0 hc0 hr1 hc1
 clear hr0 hc0 hr1 hc1
 have H : (if (l0.length : Int) = (l1.length : Int) then (laws_eqIntS.l0 k l0 l1 0) else (some false)) = some r := h
 clear h
 by_cases c3 : (l0.length : Int) = (l1.length : Int)
 rotate_left
 ·rw [if_neg c3] at H
  have c3b0 : ((l0.length : Int) == (l1.length : Int)) = false := beq_eq_false_iff_ne.mpr c3
  have c3b1 : ((l0.length : Int) != (l1.length : Int)) = true := bne_iff_ne.mpr c3
  have c3b2 : (l0.length == l1.length) = false := by first | simpa using c3 | (simp at c3 ⊢; omega)
  obtain rfl := Option.some.inj H
  go_enter Try.func72, Try.ntmps72
  go_wp2
  repeat (go_quiet (fail); try go_wp2)
  go_ret
  exact zH91

 rw [if_pos c3] at H
 have c3b0 : ((l0.length : Int) == (l1.length : Int)) = true := beq_iff_eq.mpr c3
 have c3b1 : ((l0.length : Int) != (l1.length : Int)) = false := bne_eq_false_iff_eq.mpr c3
 have c3b2 : (l0.length == l1.length) = true := by first | simpa using c3 | (simp at c3 ⊢; omega)
 clear c3
 have H' := za H
 clear H
 go_enter Try.func72, Try.ntmps72
 go_wp2
 repeat (go_quiet (fail); try go_wp2)
 go_loopg [5] k (fun kq v5 w' => ∃ (x5_1 : Int), v5 = .int .i64 x5_1 ∧ Aside0 (laws_eqIntS.l0 kq l0 l1 x5_1 = some r) ∧ Aside0 (kq ≤ k) ∧ Drawn0 w w')
 case atStart => exact ⟨(0), zG105, H', ⟨Nat.le_refl _⟩, zH120⟩
 case round =>
  clear H'
  try clear c1
  try clear c3
  try clear c3b0
  try clear c3b1
  try clear c3b2
  obtain ⟨x5_1, rfl, HA, HK1, ⟨m1, rfl⟩⟩ := hrel
  cases gk with
  | zero => exact absurd HA.out (by simp [laws_eqIntS.l0])
  | succ k1 =>
   have H := HA.out
   clear HA
   simp only [laws_eqIntS.l0] at H
   by_cases c4 : x5_1 < (l0.length : Int)
   rotate_left
   ·rw [if_neg c4] at H
    have c4b0 := decide_eq_false c4
    clear c4
    obtain rfl := Option.some.inj H
    go_wp2
    repeat (go_quiet (fail); try go_wp2)
    go_ret
    exact zH91
   rw [if_pos c4] at H
   have c4b0 := decide_eq_true c4
   clear c4
   by_cases c5 : 0 ≤ x5_1
   rotate_left
   ·rw [if_neg c5] at H
    exact absurd H (by simp)
   rw [if_pos c5] at H
   have c5b0 := decide_eq_true c5
   clear c5
   by_cases c6 : x5_1 < (l1.length : Int)
   rotate_left
   ·rw [if_neg c6] at H
    exact absurd H (by simp)
   rw [if_pos c6] at H
   have c6b0 := decide_eq_true c6
   clear c6
   by_cases c7 : (rd l0 x5_1) = (rd l1 x5_1)
   rotate_left
   ·rw [if_neg c7] at H
    have c7b0 : ((rd l0 x5_1) == (rd l1 x5_1)) = false := beq_eq_false_iff_ne.mpr c7
    have c7b1 : ((rd l0 x5_1) != (rd l1 x5_1)) = true := bne_iff_ne.mpr c7
    obtain rfl := Option.some.inj H
    have p322 : 0 ≤ (x5_1 : Int) := zO
    have q322 : x5_1 < (l0.length : Int) := zO
    obtain ⟨ad322, e322, hx322_0⟩ := zao HR0.out x5_1 p322 q322
    cases e322
    replace p322 := eq_true p322
    replace q322 := eq_true q322
    have p323 : 0 ≤ (x5_1 : Int) := zO
    have q323 : x5_1 < (l1.length : Int) := zO
    obtain ⟨ad323, e323, hx323_0⟩ := zao HR1.out x5_1 p323 q323
    cases e323
    replace p323 := eq_true p323
    replace q323 := eq_true q323
    go_wp2
    repeat (go_quiet (fail); try go_wp2)
    go_ret
    exact zH91
   rw [if_pos c7] at H
   have c7b0 : ((rd l0 x5_1) == (rd l1 x5_1)) = true := beq_iff_eq.mpr c7
   have c7b1 : ((rd l0 x5_1) != (rd l1 x5_1)) = false := bne_eq_false_iff_eq.mpr c7
   clear c7
   have H' := za H
   clear H
   have p322 : 0 ≤ (x5_1 : Int) := zO
   have q322 : x5_1 < (l0.length : Int) := zO
   obtain ⟨ad322, e322, hx322_0⟩ := zao HR0.out x5_1 p322 q322
   cases e322
   replace p322 := eq_true p322
   replace q322 := eq_true q322
   have p323 : 0 ≤ (x5_1 : Int) := zO
   have q323 : x5_1 < (l1.length : Int) := zO
   obtain ⟨ad323, e323, hx323_0⟩ := zao HR1.out x5_1 p323 q323
   cases e323
   replace p323 := eq_true p323
   replace q323 := eq_true q323
   go_wp2
   repeat (go_quiet (fail); try go_wp2)
   go_roundg k1
   case measure => have := HK1.out; omega
   case rel => exact ⟨(wrap64 (x5_1 + 1)), zG105, H', ⟨zH127⟩, zH120⟩
/-! ### laws_eqSourcing: function 37 -/
def laws_eqSourcing.f (k : Nat) (l0_0 : List Int) (a0_1 : Int) (a0_2 : Int) (l1_0 : List Int) (a1_1 : Int) (a1_2 : Int) : Option (Bool) := (laws_eqIntS.f k l0_0 l1_0).bind fun t326 => (if t326 = true then (if a0_1 = a1_1 then (if a0_2 = a1_2 then (some true) else (some false)) else (some false)) else (some false))
theorem laws_eqSourcing.mono : ∀ a0 a1 a2 a3 a4 a5 k, LeO (laws_eqSourcing.f k a0 a1 a2 a3 a4 a5) (laws_eqSourcing.f (k + 1) a0 a1 a2 a3 a4 a5) := by
 intro a0 a1 a2 a3 a4 a5 k
 unfold laws_eqSourcing.f
 repeat' first
   | (with_reducible exact laws_eqIntS.mono _ _ _)
   | (with_reducible exact LeO.refl _)
   | (with_reducible exact LeO.none _)
   | (with_reducible refine LeO.ite ?_ ?_)
   | (with_reducible refine LeO.bind ?_ (fun _ => ?_))
   | exact laws_eqIntS.mono _ _ _
   | exact LeO.none _
   | refine LeO.ite ?_ ?_
   | refine LeO.bind ?_ (fun _ => ?_)
set_option maxHeartbeats 64000000 in
set_option maxRecDepth 100000 in
theorem laws_eqSourcing.calls (k : Nat) (A0_0 : Option Addr) (c0_0 : Nat) (l0_0 : List Int) (a0_1 : Int) (a0_2 : Int) (A1_0 : Option Addr) (c1_0 : Nat) (l1_0 : List Int) (a1_1 : Int) (a1_2 : Int) (r : Bool) (w : World) (hr0_0 : Kd.C (Kd.int .i64) w A0_0 l0_0.length l0_0) (hc0_0 : l0_0.length ≤ c0_0) (hr1_0 : Kd.C (Kd.int .i64) w A1_0 l1_0.length l1_0) (hc1_0 : l1_0.length ≤ c1_0) (h : laws_eqSourcing.f k l0_0 a0_1 a0_2 l1_0 a1_1 a1_2 = some r) :
  Calls Try.prog 37 #[.agg #[.slice A0_0 l0_0.length c0_0, .int .i64 a0_1, .int .i64 a0_2], .agg #[.slice A1_0 l1_0.length c1_0, .int .i64 a1_1, .int .i64 a1_2]] w fun e w' => e = .returned (.bool r) ∧ Below w.heap.size w w' := by
 have hu52 := Try.underlying52
 obtain ⟨HR0_0, HC0_0, HR1_0, HC1_0, HB⟩ := zD5 hr0_0 hc0_0 hr1_0 hc1_0 (Below.refl w.heap.size w)
 clear hr0_0 hc0_0 hr1_0 hc1_0
 have H : ((laws_eqIntS.f k l0_0 l1_0).bind fun t326 => (if t326 = true then (if a0_1 = a1_1 then (if a0_2 = a1_2 then (some true) else (some false)) else (some false)) else (some false))) = some r := h
 clear h
 replace H := Option.bind_eq_some_iff.mp H
 obtain ⟨t326, A30, H⟩ := H
 replace H : (if t326 = true then (if a0_1 = a1_1 then (if a0_2 = a1_2 then (some true) else (some false)) else (some false)) else (some false)) = some r := H
 have A3 := za A30
 clear A30
 by_cases c4 : t326 = true
 rotate_left
 ·replace c4 := Bool.eq_false_iff.mpr c4
  subst c4
  have H1 : (some false) = some r := by rw [if_neg (show ¬ (false = true) by decide)] at H; exact H
  clear H
  have H := H1
  clear H1
  obtain rfl := Option.some.inj H
  go_enter Try.func37, Try.ntmps37
  go_wp2_with (first | ((with_reducible refine gate_dst (N := 2) rfl ?_); refine box_event ?hg (N := 2) ?hd (cs := #[.slice A0_0 l0_0.length c0_0, .int .i64 a0_1, .int .i64 a0_2]) (t := 52) ?hr ?_; (case hd => rfl); (case hg => rfl); (case hr => exact zH124); intro gb324 hg w22 hbox hb; have n_ := zA_ (za (zq zG85 hb)) (zA_ (za (hbox)) (zA_ (zN1 w.heap.size hg (zp zG85)) (zN1 w.heap.size hg (zp zG85)))); clear HB; obtain ⟨HB, BK324, GW324, GE324⟩ := n_; clear hb hbox hg) | ((with_reducible refine gate_dst (N := 3) rfl ?_); refine box_event ?hg (N := 3) ?hd (cs := #[.slice A1_0 l1_0.length c1_0, .int .i64 a1_1, .int .i64 a1_2]) (t := 52) ?hr ?_; (case hd => rfl); (case hg => rfl); (case hr => exact zH124); intro gb325 hg w23 hbox hb; have n_ := zA_ (za (zo (g := gb324) (o := .cells #[.slice A0_0 l0_0.length c0_0, .int .i64 a0_1, .int .i64 a0_2] 52 (0, 0)) zK213 hb)) (zA_ (za (zq zG81 hb)) (zA_ (za (hbox)) (zA_ (zN1 w.heap.size hg (zp zG81)) (zA_ (zN1 w.heap.size hg (zp zG81)) (zN2 hg (zz (g := gb324) (o := .cells #[.slice A0_0 l0_0.length c0_0, .int .i64 a0_1, .int .i64 a0_2] 52 (0, 0)) zK213)))))); clear BK324 HB; obtain ⟨BK324, HB, BK325, GW325, GE325, NB324_325, NB325_324⟩ := n_; clear hb hbox hg; have hnb24 := NB324_325.out; have hnc24 := NB325_324.out; obtain ⟨hcz25_0, hcz25_1, hcz25_2, hfz25_0, hfz25_1, hfz25_2⟩ := zB3 BK324.out; obtain ⟨hcz26_0, hcz26_1, hcz26_2, hfz26_0, hfz26_1, hfz26_2⟩ := zB3 BK325.out) | ((with_reducible refine gate_callee (f := 72) rfl ?_); refine goesL_ (some 9) rfl rfl Try.func72 zG106 rfl #[.slice A0_0 l0_0.length c0_0, .slice A1_0 l1_0.length c1_0] rfl zG80 ?_; (with_reducible refine (laws_eqIntS.calls k _ _ l0_0 _ _ l1_0 false _ ?side1 ?side2 ?side3 ?side4 A3.out).mono ?_); (case side1 => exact zH74); (case side2 => exact HC0_0.out); (case side3 => exact zH72); (case side4 => exact HC1_0.out); rintro e w' ⟨rfl, ⟨nd, rfl⟩⟩; refine ⟨_, rfl, ?_⟩))
  go_ret
  exact zH24

 subst c4
 have H1 : (if a0_1 = a1_1 then (if a0_2 = a1_2 then (some true) else (some false)) else (some false)) = some r := by rw [if_pos rfl] at H; exact H
 clear H
 have H := H1
 clear H1
 by_cases c5 : a0_1 = a1_1
 rotate_left
 ·rw [if_neg c5] at H
  have c5b0 : (a0_1 == a1_1) = false := beq_eq_false_iff_ne.mpr c5
  have c5b1 : (a0_1 != a1_1) = true := bne_iff_ne.mpr c5
  obtain rfl := Option.some.inj H
  go_enter Try.func37, Try.ntmps37
  go_wp2_with (first | ((with_reducible refine gate_dst (N := 2) rfl ?_); refine box_event ?hg (N := 2) ?hd (cs := #[.slice A0_0 l0_0.length c0_0, .int .i64 a0_1, .int .i64 a0_2]) (t := 52) ?hr ?_; (case hd => rfl); (case hg => rfl); (case hr => exact zH124); intro gb324 hg w17 hbox hb; have n_ := zA_ (za (zq zG85 hb)) (zA_ (za (hbox)) (zA_ (zN1 w.heap.size hg (zp zG85)) (zN1 w.heap.size hg (zp zG85)))); clear HB; obtain ⟨HB, BK324, GW324, GE324⟩ := n_; clear hb hbox hg) | ((with_reducible refine gate_dst (N := 3) rfl ?_); refine box_event ?hg (N := 3) ?hd (cs := #[.slice A1_0 l1_0.length c1_0, .int .i64 a1_1, .int .i64 a1_2]) (t := 52) ?hr ?_; (case hd => rfl); (case hg => rfl); (case hr => exact zH124); intro gb325 hg w18 hbox hb; have n_ := zA_ (za (zo (g := gb324) (o := .cells #[.slice A0_0 l0_0.length c0_0, .int .i64 a0_1, .int .i64 a0_2] 52 (0, 0)) zK213 hb)) (zA_ (za (zq zG81 hb)) (zA_ (za (hbox)) (zA_ (zN1 w.heap.size hg (zp zG81)) (zA_ (zN1 w.heap.size hg (zp zG81)) (zN2 hg (zz (g := gb324) (o := .cells #[.slice A0_0 l0_0.length c0_0, .int .i64 a0_1, .int .i64 a0_2] 52 (0, 0)) zK213)))))); clear BK324 HB; obtain ⟨BK324, HB, BK325, GW325, GE325, NB324_325, NB325_324⟩ := n_; clear hb hbox hg; have hnb19 := NB324_325.out; have hnc19 := NB325_324.out; obtain ⟨hcz20_0, hcz20_1, hcz20_2, hfz20_0, hfz20_1, hfz20_2⟩ := zB3 BK324.out; obtain ⟨hcz21_0, hcz21_1, hcz21_2, hfz21_0, hfz21_1, hfz21_2⟩ := zB3 BK325.out) | ((with_reducible refine gate_callee (f := 72) rfl ?_); refine goesL_ (some 9) rfl rfl Try.func72 zG106 rfl #[.slice A0_0 l0_0.length c0_0, .slice A1_0 l1_0.length c1_0] rfl zG80 ?_; (with_reducible refine (laws_eqIntS.calls k _ _ l0_0 _ _ l1_0 true _ ?side1 ?side2 ?side3 ?side4 A3.out).mono ?_); (case side1 => exact zH74); (case side2 => exact HC0_0.out); (case side3 => exact zH72); (case side4 => exact HC1_0.out); rintro e w' ⟨rfl, ⟨nd, rfl⟩⟩; refine ⟨_, rfl, ?_⟩))
  go_ret
  exact zH24
 rw [if_pos c5] at H
 have c5b0 : (a0_1 == a1_1) = true := beq_iff_eq.mpr c5
 have c5b1 : (a0_1 != a1_1) = false := bne_eq_false_iff_eq.mpr c5
 clear c5
 by_cases c6 : a0_2 = a1_2
 rotate_left
 ·rw [if_neg c6] at H
  have c6b0 : (a0_2 == a1_2) = false := beq_eq_false_iff_ne.mpr c6
  have c6b1 : (a0_2 != a1_2) = true := bne_iff_ne.mpr c6
  obtain rfl := Option.some.inj H
  go_enter Try.func37, Try.ntmps37
  go_wp2_with (first | ((with_reducible refine gate_dst (N := 2) rfl ?_); refine box_event ?hg (N := 2) ?hd (cs := #[.slice A0_0 l0_0.length c0_0, .int .i64 a0_1, .int .i64 a0_2]) (t := 52) ?hr ?_; (case hd => rfl); (case hg => rfl); (case hr => exact zH124); intro gb324 hg w12 hbox hb; have n_ := zA_ (za (zq zG85 hb)) (zA_ (za (hbox)) (zA_ (zN1 w.heap.size hg (zp zG85)) (zN1 w.heap.size hg (zp zG85)))); clear HB; obtain ⟨HB, BK324, GW324, GE324⟩ := n_; clear hb hbox hg) | ((with_reducible refine gate_dst (N := 3) rfl ?_); refine box_event ?hg (N := 3) ?hd (cs := #[.slice A1_0 l1_0.length c1_0, .int .i64 a1_1, .int .i64 a1_2]) (t := 52) ?hr ?_; (case hd => rfl); (case hg => rfl); (case hr => exact zH124); intro gb325 hg w13 hbox hb; have n_ := zA_ (za (zo (g := gb324) (o := .cells #[.slice A0_0 l0_0.length c0_0, .int .i64 a0_1, .int .i64 a0_2] 52 (0, 0)) zK213 hb)) (zA_ (za (zq zG81 hb)) (zA_ (za (hbox)) (zA_ (zN1 w.heap.size hg (zp zG81)) (zA_ (zN1 w.heap.size hg (zp zG81)) (zN2 hg (zz (g := gb324) (o := .cells #[.slice A0_0 l0_0.length c0_0, .int .i64 a0_1, .int .i64 a0_2] 52 (0, 0)) zK213)))))); clear BK324 HB; obtain ⟨BK324, HB, BK325, GW325, GE325, NB324_325, NB325_324⟩ := n_; clear hb hbox hg; have hnb14 := NB324_325.out; have hnc14 := NB325_324.out; obtain ⟨hcz15_0, hcz15_1, hcz15_2, hfz15_0, hfz15_1, hfz15_2⟩ := zB3 BK324.out; obtain ⟨hcz16_0, hcz16_1, hcz16_2, hfz16_0, hfz16_1, hfz16_2⟩ := zB3 BK325.out) | ((with_reducible refine gate_callee (f := 72) rfl ?_); refine goesL_ (some 9) rfl rfl Try.func72 zG106 rfl #[.slice A0_0 l0_0.length c0_0, .slice A1_0 l1_0.length c1_0] rfl zG80 ?_; (with_reducible refine (laws_eqIntS.calls k _ _ l0_0 _ _ l1_0 true _ ?side1 ?side2 ?side3 ?side4 A3.out).mono ?_); (case side1 => exact zH74); (case side2 => exact HC0_0.out); (case side3 => exact zH72); (case side4 => exact HC1_0.out); rintro e w' ⟨rfl, ⟨nd, rfl⟩⟩; refine ⟨_, rfl, ?_⟩))
  go_ret
  exact zH24
 rw [if_pos c6] at H
 have c6b0 : (a0_2 == a1_2) = true := beq_iff_eq.mpr c6
 have c6b1 : (a0_2 != a1_2) = false := bne_eq_false_iff_eq.mpr c6
 clear c6
 obtain rfl := Option.some.inj H
 go_enter Try.func37, Try.ntmps37
 go_wp2_with (first | ((with_reducible refine gate_dst (N := 2) rfl ?_); refine box_event ?hg (N := 2) ?hd (cs := #[.slice A0_0 l0_0.length c0_0, .int .i64 a0_1, .int .i64 a0_2]) (t := 52) ?hr ?_; (case hd => rfl); (case hg => rfl); (case hr => exact zH124); intro gb324 hg w7 hbox hb; have n_ := zA_ (za (zq zG85 hb)) (zA_ (za (hbox)) (zA_ (zN1 w.heap.size hg (zp zG85)) (zN1 w.heap.size hg (zp zG85)))); clear HB; obtain ⟨HB, BK324, GW324, GE324⟩ := n_; clear hb hbox hg) | ((with_reducible refine gate_dst (N := 3) rfl ?_); refine box_event ?hg (N := 3) ?hd (cs := #[.slice A1_0 l1_0.length c1_0, .int .i64 a1_1, .int .i64 a1_2]) (t := 52) ?hr ?_; (case hd => rfl); (case hg => rfl); (case hr => exact zH124); intro gb325 hg w8 hbox hb; have n_ := zA_ (za (zo (g := gb324) (o := .cells #[.slice A0_0 l0_0.length c0_0, .int .i64 a0_1, .int .i64 a0_2] 52 (0, 0)) zK213 hb)) (zA_ (za (zq zG81 hb)) (zA_ (za (hbox)) (zA_ (zN1 w.heap.size hg (zp zG81)) (zA_ (zN1 w.heap.size hg (zp zG81)) (zN2 hg (zz (g := gb324) (o := .cells #[.slice A0_0 l0_0.length c0_0, .int .i64 a0_1, .int .i64 a0_2] 52 (0, 0)) zK213)))))); clear BK324 HB; obtain ⟨BK324, HB, BK325, GW325, GE325, NB324_325, NB325_324⟩ := n_; clear hb hbox hg; have hnb9 := NB324_325.out; have hnc9 := NB325_324.out; obtain ⟨hcz10_0, hcz10_1, hcz10_2, hfz10_0, hfz10_1, hfz10_2⟩ := zB3 BK324.out; obtain ⟨hcz11_0, hcz11_1, hcz11_2, hfz11_0, hfz11_1, hfz11_2⟩ := zB3 BK325.out) | ((with_reducible refine gate_callee (f := 72) rfl ?_); refine goesL_ (some 9) rfl rfl Try.func72 zG106 rfl #[.slice A0_0 l0_0.length c0_0, .slice A1_0 l1_0.length c1_0] rfl zG80 ?_; (with_reducible refine (laws_eqIntS.calls k _ _ l0_0 _ _ l1_0 true _ ?side1 ?side2 ?side3 ?side4 A3.out).mono ?_); (case side1 => exact zH74); (case side2 => exact HC0_0.out); (case side3 => exact zH72); (case side4 => exact HC1_0.out); rintro e w' ⟨rfl, ⟨nd, rfl⟩⟩; refine ⟨_, rfl, ?_⟩))
 go_ret
 exact zH24
/-! ### laws_eqStocked: function 107 -/
def laws_eqStocked.f (a0_0 : ByteArray) (a0_1 : Int) (a1_0 : ByteArray) (a1_1 : Int) : Option (Bool) := if a0_0.toList = a1_0.toList then (if a0_1 = a1_1 then (some true) else (some false)) else (some false)
set_option maxHeartbeats 64000000 in
set_option maxRecDepth 100000 in
theorem laws_eqStocked.calls (a0_0 : ByteArray) (a0_1 : Int) (a1_0 : ByteArray) (a1_1 : Int) (r : Bool) (w : World) (h : laws_eqStocked.f a0_0 a0_1 a1_0 a1_1 = some r) :
  Calls Try.prog 107 #[.agg #[.string a0_0, .int .i64 a0_1], .agg #[.string a1_0, .int .i64 a1_1]] w fun e w' => e = .returned (.bool r) ∧ Below w.heap.size w w' := by
 have hu124 := Try.underlying124
 have HB := za (Below.refl w.heap.size w)
 have H : (if a0_0.toList = a1_0.toList then (if a0_1 = a1_1 then (some true) else (some false)) else (some false)) = some r := h
 clear h
 by_cases c3 : a0_0.toList = a1_0.toList
 rotate_left
 ·rw [if_neg c3] at H
  have c3b0 : (a0_0.toList == a1_0.toList) = false := beq_eq_false_iff_ne.mpr c3
  have c3b1 : (a0_0.toList != a1_0.toList) = true := bne_iff_ne.mpr c3
  obtain rfl := Option.some.inj H
  go_enter Try.func107, Try.ntmps107
  go_wp2_with (first | ((with_reducible refine gate_dst (N := 2) rfl ?_); refine box_event ?hg (N := 2) ?hd (cs := #[.string a0_0, .int .i64 a0_1]) (t := 124) ?hr ?_; (case hd => rfl); (case hg => rfl); (case hr => exact zH124); intro gb327 hg w15 hbox hb; have n_ := zA_ (za (zq zG85 hb)) (zA_ (za (hbox)) (zA_ (zN1 w.heap.size hg (zp zG85)) (zN1 w.heap.size hg (zp zG85)))); clear HB; obtain ⟨HB, BK327, GW327, GE327⟩ := n_; clear hb hbox hg) | ((with_reducible refine gate_dst (N := 3) rfl ?_); refine box_event ?hg (N := 3) ?hd (cs := #[.string a1_0, .int .i64 a1_1]) (t := 124) ?hr ?_; (case hd => rfl); (case hg => rfl); (case hr => exact zH124); intro gb328 hg w16 hbox hb; have n_ := zA_ (za (zo (g := gb327) (o := .cells #[.string a0_0, .int .i64 a0_1] 124 (0, 0)) zK214 hb)) (zA_ (za (zq zK195 hb)) (zA_ (za (hbox)) (zA_ (zN1 w.heap.size hg (zp zK195)) (zA_ (zN1 w.heap.size hg (zp zK195)) (zN2 hg (zz (g := gb327) (o := .cells #[.string a0_0, .int .i64 a0_1] 124 (0, 0)) zK214)))))); clear BK327 HB; obtain ⟨BK327, HB, BK328, GW328, GE328, NB327_328, NB328_327⟩ := n_; clear hb hbox hg; have hnb17 := NB327_328.out; have hnc17 := NB328_327.out; obtain ⟨hcz18_0, hcz18_1, hfz18_0, hfz18_1⟩ := zB2 BK327.out; obtain ⟨hcz19_0, hcz19_1, hfz19_0, hfz19_1⟩ := zB2 BK328.out))
  go_ret
  exact zH23

 rw [if_pos c3] at H
 have c3b0 : (a0_0.toList == a1_0.toList) = true := beq_iff_eq.mpr c3
 have c3b1 : (a0_0.toList != a1_0.toList) = false := bne_eq_false_iff_eq.mpr c3
 clear c3
 by_cases c4 : a0_1 = a1_1
 rotate_left
 ·rw [if_neg c4] at H
  have c4b0 : (a0_1 == a1_1) = false := beq_eq_false_iff_ne.mpr c4
  have c4b1 : (a0_1 != a1_1) = true := bne_iff_ne.mpr c4
  obtain rfl := Option.some.inj H
  go_enter Try.func107, Try.ntmps107
  go_wp2_with (first | ((with_reducible refine gate_dst (N := 2) rfl ?_); refine box_event ?hg (N := 2) ?hd (cs := #[.string a0_0, .int .i64 a0_1]) (t := 124) ?hr ?_; (case hd => rfl); (case hg => rfl); (case hr => exact zH124); intro gb327 hg w10 hbox hb; have n_ := zA_ (za (zq zG85 hb)) (zA_ (za (hbox)) (zA_ (zN1 w.heap.size hg (zp zG85)) (zN1 w.heap.size hg (zp zG85)))); clear HB; obtain ⟨HB, BK327, GW327, GE327⟩ := n_; clear hb hbox hg) | ((with_reducible refine gate_dst (N := 3) rfl ?_); refine box_event ?hg (N := 3) ?hd (cs := #[.string a1_0, .int .i64 a1_1]) (t := 124) ?hr ?_; (case hd => rfl); (case hg => rfl); (case hr => exact zH124); intro gb328 hg w11 hbox hb; have n_ := zA_ (za (zo (g := gb327) (o := .cells #[.string a0_0, .int .i64 a0_1] 124 (0, 0)) zK214 hb)) (zA_ (za (zq zK195 hb)) (zA_ (za (hbox)) (zA_ (zN1 w.heap.size hg (zp zK195)) (zA_ (zN1 w.heap.size hg (zp zK195)) (zN2 hg (zz (g := gb327) (o := .cells #[.string a0_0, .int .i64 a0_1] 124 (0, 0)) zK214)))))); clear BK327 HB; obtain ⟨BK327, HB, BK328, GW328, GE328, NB327_328, NB328_327⟩ := n_; clear hb hbox hg; have hnb12 := NB327_328.out; have hnc12 := NB328_327.out; obtain ⟨hcz13_0, hcz13_1, hfz13_0, hfz13_1⟩ := zB2 BK327.out; obtain ⟨hcz14_0, hcz14_1, hfz14_0, hfz14_1⟩ := zB2 BK328.out))
  go_ret
  exact zH23
 rw [if_pos c4] at H
 have c4b0 : (a0_1 == a1_1) = true := beq_iff_eq.mpr c4
 have c4b1 : (a0_1 != a1_1) = false := bne_eq_false_iff_eq.mpr c4
 clear c4
 obtain rfl := Option.some.inj H
 go_enter Try.func107, Try.ntmps107
 go_wp2_with (first | ((with_reducible refine gate_dst (N := 2) rfl ?_); refine box_event ?hg (N := 2) ?hd (cs := #[.string a0_0, .int .i64 a0_1]) (t := 124) ?hr ?_; (case hd => rfl); (case hg => rfl); (case hr => exact zH124); intro gb327 hg w5 hbox hb; have n_ := zA_ (za (zq zG85 hb)) (zA_ (za (hbox)) (zA_ (zN1 w.heap.size hg (zp zG85)) (zN1 w.heap.size hg (zp zG85)))); clear HB; obtain ⟨HB, BK327, GW327, GE327⟩ := n_; clear hb hbox hg) | ((with_reducible refine gate_dst (N := 3) rfl ?_); refine box_event ?hg (N := 3) ?hd (cs := #[.string a1_0, .int .i64 a1_1]) (t := 124) ?hr ?_; (case hd => rfl); (case hg => rfl); (case hr => exact zH124); intro gb328 hg w6 hbox hb; have n_ := zA_ (za (zo (g := gb327) (o := .cells #[.string a0_0, .int .i64 a0_1] 124 (0, 0)) zK214 hb)) (zA_ (za (zq zK195 hb)) (zA_ (za (hbox)) (zA_ (zN1 w.heap.size hg (zp zK195)) (zA_ (zN1 w.heap.size hg (zp zK195)) (zN2 hg (zz (g := gb327) (o := .cells #[.string a0_0, .int .i64 a0_1] 124 (0, 0)) zK214)))))); clear BK327 HB; obtain ⟨BK327, HB, BK328, GW328, GE328, NB327_328, NB328_327⟩ := n_; clear hb hbox hg; have hnb7 := NB327_328.out; have hnc7 := NB328_327.out; obtain ⟨hcz8_0, hcz8_1, hfz8_0, hfz8_1⟩ := zB2 BK327.out; obtain ⟨hcz9_0, hcz9_1, hfz9_0, hfz9_1⟩ := zB2 BK328.out))
 go_ret
 exact zH23
/-! ### laws_eqStockedS: function 39 -/
def laws_eqStockedS.l0 : Nat → List (S124) → List (S124) → Int → Option (Bool)
 | 0, _, _, _ => none
 | k + 1, x0, x1, x5 => if x5 < (x0.length : Int) then (if 0 ≤ x5 then (if x5 < (x1.length : Int) then ((laws_eqStocked.f ((rd_T124 x0 x5).f0) ((rd_T124 x0 x5).f1) ((rd_T124 x1 x5).f0) ((rd_T124 x1 x5).f1)).bind fun t331 => (if t331 = true then (laws_eqStockedS.l0 k x0 x1 (wrap64 (x5 + 1))) else (some false))) else (none)) else (none)) else (some true)
def laws_eqStockedS.f (k : Nat) (l0 : List (S124)) (l1 : List (S124)) : Option (Bool) := if (l0.length : Int) = (l1.length : Int) then (laws_eqStockedS.l0 k l0 l1 0) else (some false)
theorem laws_eqStockedS.mono_l : ∀ k, (∀ y0 y1 y2, LeO (laws_eqStockedS.l0 k y0 y1 y2) (laws_eqStockedS.l0 (k + 1) y0 y1 y2))
 | 0 => fun _ _ _ r h => by simp [laws_eqStockedS.l0] at h
 | k + 1 => by
  have ih0 := laws_eqStockedS.mono_l k
  ·intro y0 y1 y2
   unfold laws_eqStockedS.l0
   repeat' first
   | (with_reducible exact ih0 _ _ _)
   | (with_reducible exact LeO.refl _)
   | (with_reducible exact LeO.none _)
   | (with_reducible refine LeO.ite ?_ ?_)
   | (with_reducible refine LeO.bind ?_ (fun _ => ?_))
   | exact ih0 _ _ _
   | exact LeO.none _
   | refine LeO.ite ?_ ?_
   | refine LeO.bind ?_ (fun _ => ?_)
theorem laws_eqStockedS.mono : ∀ a0 a1 k, LeO (laws_eqStockedS.f k a0 a1) (laws_eqStockedS.f (k + 1) a0 a1) := by
 intro a0 a1 k
 have ih0 := laws_eqStockedS.mono_l k
 unfold laws_eqStockedS.f
 repeat' first
   | (with_reducible exact ih0 _ _ _)
   | (with_reducible exact LeO.refl _)
   | (with_reducible exact LeO.none _)
   | (with_reducible refine LeO.ite ?_ ?_)
   | (with_reducible refine LeO.bind ?_ (fun _ => ?_))
   | exact ih0 _ _ _
   | exact LeO.none _
   | refine LeO.ite ?_ ?_
   | refine LeO.bind ?_ (fun _ => ?_)
def laws_eqStockedS.T6 : Bool × List (List Nat × List Nat) := (true, [([], []), ([], []), ([0, 1], [0, 1]), ([2], [2]), ([], []), ([], []), ([4, 5], [4, 5]), ([6], [6]), ([3, 7], [3, 7]), ([8], [8])])
def laws_eqStockedS.B6 : List Nat := [0, 0, 3, 7, 0, 0, 48, 112, 255, 511]
theorem laws_eqStockedS.tab6 : rtab .any (opsOf Try.f39 6) = laws_eqStockedS.T6 := by kernel_rfl
theorem laws_eqStockedS.bits6 : waitsOk laws_eqStockedS.T6.2 laws_eqStockedS.B6 = true := by kernel_rfl
set_option maxHeartbeats 64000000 in
set_option maxRecDepth 100000 in
theorem laws_eqStockedS.calls (k : Nat) (A0 : Option Addr) (c0 : Nat) (l0 : List (S124)) (A1 : Option Addr) (c1 : Nat) (l1 : List (S124)) (r : Bool) (w : World) (hr0 : Kd.C k124 w A0 l0.length l0) (hc0 : l0.length ≤ c0) (hr1 : Kd.C k124 w A1 l1.length l1) (hc1 : l1.length ≤ c1) (h : laws_eqStockedS.f k l0 l1 = some r) :
  Calls Try.prog 39 #[.slice A0 l0.length c0, .slice A1 l1.length c1] w fun e w' => e = .returned (.bool r) ∧ Below w.heap.size w w' := by
 have hu124 := Try.underlying124
 obtain ⟨HR0, HC0, HR1, HC1, HB⟩ := zD5 hr0 hc0 hr1 hc1 (Below.refl w.heap.size w)
 clear hr0 hc0 hr1 hc1
 have H : (if (l0.length : Int) = (l1.length : Int) then (laws_eqStockedS.l0 k l0 l1 0) else (some false)) = some r := h
 clear h
 by_cases c3 : (l0.length : Int) = (l1.length : Int)
 rotate_left
 ·rw [if_neg c3] at H
  have c3b0 : ((l0.length : Int) == (l1.length : Int)) = false := beq_eq_false_iff_ne.mpr c3
  have c3b1 : ((l0.length : Int) != (l1.length : Int)) = true := bne_iff_ne.mpr c3
  have c3b2 : (l0.length == l1.length) = false := by first | simpa using c3 | (simp at c3 ⊢; omega)
  obtain rfl := Option.some.inj H
  go_enter Try.func39, Try.ntmps39
  go_wp2
  go_ret
  exact zH43

 rw [if_pos c3] at H
 have c3b0 : ((l0.length : Int) == (l1.length : Int)) = true := beq_iff_eq.mpr c3
 have c3b1 : ((l0.length : Int) != (l1.length : Int)) = false := bne_eq_false_iff_eq.mpr c3
 have c3b2 : (l0.length == l1.length) = true := by first | simpa using c3 | (simp at c3 ⊢; omega)
 clear c3
 have H' := za H
 clear H
 go_enter Try.func39, Try.ntmps39
 go_wp2
 go_loopg [5] k (fun kq v5 w' => ∃ (x5_1 : Int), v5 = .int .i64 x5_1 ∧ Aside0 (laws_eqStockedS.l0 kq l0 l1 x5_1 = some r) ∧ Aside0 (kq ≤ k) ∧ Aside0 (Below w.heap.size w w'))
 case atStart => exact ⟨(0), zG105, H', ⟨Nat.le_refl _⟩, ⟨zH104⟩⟩
 case round =>
  clear H'
  try clear c1
  try clear c3
  try clear c3b0
  try clear c3b1
  try clear c3b2
  obtain ⟨x5_1, rfl, HA, HK1, HB⟩ := hrel
  cases gk with
  | zero => exact absurd HA.out (by simp [laws_eqStockedS.l0])
  | succ k1 =>
   have H := HA.out
   clear HA
   simp only [laws_eqStockedS.l0] at H
   by_cases c4 : x5_1 < (l0.length : Int)
   rotate_left
   ·rw [if_neg c4] at H
    have c4b0 := decide_eq_false c4
    clear c4
    obtain rfl := Option.some.inj H
    go_wp2
    go_ret
    exact zH43
   rw [if_pos c4] at H
   have c4b0 := decide_eq_true c4
   clear c4
   by_cases c5 : 0 ≤ x5_1
   rotate_left
   ·rw [if_neg c5] at H
    exact absurd H (by simp)
   rw [if_pos c5] at H
   have c5b0 := decide_eq_true c5
   clear c5
   by_cases c6 : x5_1 < (l1.length : Int)
   rotate_left
   ·rw [if_neg c6] at H
    exact absurd H (by simp)
   rw [if_pos c6] at H
   have c6b0 := decide_eq_true c6
   clear c6
   replace H := Option.bind_eq_some_iff.mp H
   obtain ⟨t331, A70, H⟩ := H
   replace H : (if t331 = true then (laws_eqStockedS.l0 k1 l0 l1 (wrap64 (x5_1 + 1))) else (some false)) = some r := H
   have A7 := za A70
   clear A70
   by_cases c8 : t331 = true
   rotate_left
   ·replace c8 := Bool.eq_false_iff.mpr c8
    subst c8
    have H1 : (some false) = some r := by rw [if_neg (show ¬ (false = true) by decide)] at H; exact H
    clear H
    have H := H1
    clear H1
    obtain rfl := Option.some.inj H
    try go_wp2
    have n0_ := za (zg HB.out)
    clear HB
    have HB := n0_
    clear n0_
    have p329 : 0 ≤ (x5_1 : Int) := zO
    have q329 : x5_1 < (l0.length : Int) := zO
    obtain ⟨ad329, e329, hx329_0, hx329_1⟩ := at_T124 HR0.out x5_1 p329 q329
    have hw329_1 := hx329_1
    have hw329_0 := hx329_0
    cases e329
    replace hx329_0 := (HB.out.cell (zj w _ hx329_0)).trans hx329_0
    replace hx329_1 := (HB.out.cell (zj w _ hx329_1)).trans hx329_1
    replace p329 := eq_true p329
    replace q329 := eq_true q329
    have p330 : 0 ≤ (x5_1 : Int) := zO
    have q330 : x5_1 < (l1.length : Int) := zO
    obtain ⟨ad330, e330, hx330_0, hx330_1⟩ := at_T124 HR1.out x5_1 p330 q330
    have hw330_1 := hx330_1
    have hw330_0 := hx330_0
    cases e330
    replace hx330_0 := (HB.out.cell (zj w _ hx330_0)).trans hx330_0
    replace hx330_1 := (HB.out.cell (zj w _ hx330_1)).trans hx330_1
    replace p330 := eq_true p330
    replace q330 := eq_true q330
    refine start_ (n := 10) (S := fun w' => w'.cell? (ad329.add ((x5_1).toNat * 2)) = some (.string ((rd_T124 l0 x5_1).f0)) ∧ w'.cell? ⟨(ad329.add ((x5_1).toNat * 2)).block, (ad329.add ((x5_1).toNat * 2)).off + 1, none⟩ = some (.int .i64 ((rd_T124 l0 x5_1).f1)) ∧ w'.cell? (ad330.add ((x5_1).toNat * 2)) = some (.string ((rd_T124 l1 x5_1).f0)) ∧ w'.cell? ⟨(ad330.add ((x5_1).toNat * 2)).block, (ad330.add ((x5_1).toNat * 2)).off + 1, none⟩ = some (.int .i64 ((rd_T124 l1 x5_1).f1))) (ds := []) b13A0 zG106 rfl rfl ⟨((HB.out.cell (zj w _ hw329_0)).trans hw329_0), ((HB.out.cell (zj w _ hw329_1)).trans hw329_1), ((HB.out.cell (zj w _ hw330_0)).trans hw330_0), ((HB.out.cell (zj w _ hw330_1)).trans hw330_1)⟩ (fun hHeld => ?_); refine with_tabW laws_eqStockedS.tab6 laws_eqStockedS.bits6 (fun HT_ HW_ => ?_)
    generalize wr.drew = w11 at HB hx329_0 hx329_1 hx330_0 hx330_1 hHeld ⊢
    refine zP 0 17 b13A1 HT_ ?_
    refine zP 1 18 b13A2 HT_ ?_
    refine zP 2 19 b13A3 HT_ ?_
    refine zP 4 21 b13A4 HT_ ?_
    refine zP 5 22 b13A5 HT_ ?_
    refine zP 6 23 b13A6 HT_ ?_
    refine zQ 3 20 b13A7 HT_ HW_ hHeld ?_
    refine zQ 7 24 b13A8 HT_ HW_ hHeld ?_
    refine one_ (i := 8) (N := some 25) b13A9 rfl rfl (one_of HT_.out zG106) zG107 (fun K hK => ?_)
    refine goes_ Try.func107 zG106 rfl #[.agg #[.string ((rd_T124 l0 x5_1).f0), .int .i64 ((rd_T124 l0 x5_1).f1)], .agg #[.string ((rd_T124 l1 x5_1).f0), .int .i64 ((rd_T124 l1 x5_1).f1)]] (by rfl) rfl rfl zG80 ?_
    with_reducible refine (laws_eqStocked.calls ((rd_T124 l0 x5_1).f0) ((rd_T124 l0 x5_1).f1) ((rd_T124 l1 x5_1).f0) ((rd_T124 l1 x5_1).f1) false _ A7.out).mono ?_
    rintro e w12 ⟨rfl, hb⟩
    refine ⟨_, rfl, ?_⟩
    have n0_ := za (zq zG85 hb)
    clear HB
    have HB := n0_
    clear n0_
    (try clear hb)
    (try clear hb2)
    (try clear hk)
    (try clear hi)
    refine hK.out _ _ ⟨((HB.out.cell (zj w _ hw329_0)).trans hw329_0), ((HB.out.cell (zj w _ hw329_1)).trans hw329_1), ((HB.out.cell (zj w _ hw330_0)).trans hw330_0), ((HB.out.cell (zj w _ hw330_1)).trans hw330_1)⟩ (fun hHeld => ?_)
    clear hK K
    refine norm_ (a' := ?_) ?_ ?_
    rotate_left
    ·show Act.put _ (some 25) _ = _
     simp only [Act.put, List.setIfInBounds_toArray, List.set_cons_zero, List.set_cons_succ, i64_w, i32_w]
     rfl
    refine zP 9 26 b13A10 HT_ ?_
    refine done_ (done_of HT_.out zG106) ?_
    try go_wp2
    go_ret
    exact zH43
   subst c8
   have H1 : (laws_eqStockedS.l0 k1 l0 l1 (wrap64 (x5_1 + 1))) = some r := by rw [if_pos rfl] at H; exact H
   clear H
   have H := H1
   clear H1
   have H' := za H
   clear H
   try go_wp2
   have n0_ := za (zg HB.out)
   clear HB
   have HB := n0_
   clear n0_
   have p329 : 0 ≤ (x5_1 : Int) := zO
   have q329 : x5_1 < (l0.length : Int) := zO
   obtain ⟨ad329, e329, hx329_0, hx329_1⟩ := at_T124 HR0.out x5_1 p329 q329
   have hw329_1 := hx329_1
   have hw329_0 := hx329_0
   cases e329
   replace hx329_0 := (HB.out.cell (zj w _ hx329_0)).trans hx329_0
   replace hx329_1 := (HB.out.cell (zj w _ hx329_1)).trans hx329_1
   replace p329 := eq_true p329
   replace q329 := eq_true q329
   have p330 : 0 ≤ (x5_1 : Int) := zO
   have q330 : x5_1 < (l1.length : Int) := zO
   obtain ⟨ad330, e330, hx330_0, hx330_1⟩ := at_T124 HR1.out x5_1 p330 q330
   have hw330_1 := hx330_1
   have hw330_0 := hx330_0
   cases e330
   replace hx330_0 := (HB.out.cell (zj w _ hx330_0)).trans hx330_0
   replace hx330_1 := (HB.out.cell (zj w _ hx330_1)).trans hx330_1
   replace p330 := eq_true p330
   replace q330 := eq_true q330
   refine start_ (n := 10) (S := fun w' => w'.cell? (ad329.add ((x5_1).toNat * 2)) = some (.string ((rd_T124 l0 x5_1).f0)) ∧ w'.cell? ⟨(ad329.add ((x5_1).toNat * 2)).block, (ad329.add ((x5_1).toNat * 2)).off + 1, none⟩ = some (.int .i64 ((rd_T124 l0 x5_1).f1)) ∧ w'.cell? (ad330.add ((x5_1).toNat * 2)) = some (.string ((rd_T124 l1 x5_1).f0)) ∧ w'.cell? ⟨(ad330.add ((x5_1).toNat * 2)).block, (ad330.add ((x5_1).toNat * 2)).off + 1, none⟩ = some (.int .i64 ((rd_T124 l1 x5_1).f1))) (ds := []) b13A0 zG106 rfl rfl ⟨((HB.out.cell (zj w _ hw329_0)).trans hw329_0), ((HB.out.cell (zj w _ hw329_1)).trans hw329_1), ((HB.out.cell (zj w _ hw330_0)).trans hw330_0), ((HB.out.cell (zj w _ hw330_1)).trans hw330_1)⟩ (fun hHeld => ?_); refine with_tabW laws_eqStockedS.tab6 laws_eqStockedS.bits6 (fun HT_ HW_ => ?_)
   generalize wr.drew = w9 at HB hx329_0 hx329_1 hx330_0 hx330_1 hHeld ⊢
   refine zP 0 17 b13A1 HT_ ?_
   refine zP 1 18 b13A2 HT_ ?_
   refine zP 2 19 b13A3 HT_ ?_
   refine zP 4 21 b13A4 HT_ ?_
   refine zP 5 22 b13A5 HT_ ?_
   refine zP 6 23 b13A6 HT_ ?_
   refine zQ 3 20 b13A7 HT_ HW_ hHeld ?_
   refine zQ 7 24 b13A8 HT_ HW_ hHeld ?_
   refine one_ (i := 8) (N := some 25) b13A9 rfl rfl (one_of HT_.out zG106) zG107 (fun K hK => ?_)
   refine goes_ Try.func107 zG106 rfl #[.agg #[.string ((rd_T124 l0 x5_1).f0), .int .i64 ((rd_T124 l0 x5_1).f1)], .agg #[.string ((rd_T124 l1 x5_1).f0), .int .i64 ((rd_T124 l1 x5_1).f1)]] (by rfl) rfl rfl zG80 ?_
   with_reducible refine (laws_eqStocked.calls ((rd_T124 l0 x5_1).f0) ((rd_T124 l0 x5_1).f1) ((rd_T124 l1 x5_1).f0) ((rd_T124 l1 x5_1).f1) true _ A7.out).mono ?_
   rintro e w10 ⟨rfl, hb⟩
   refine ⟨_, rfl, ?_⟩
   have n0_ := za (zq zG85 hb)
   clear HB
   have HB := n0_
   clear n0_
   (try clear hb)
   (try clear hb2)
   (try clear hk)
   (try clear hi)
   refine hK.out _ _ ⟨((HB.out.cell (zj w _ hw329_0)).trans hw329_0), ((HB.out.cell (zj w _ hw329_1)).trans hw329_1), ((HB.out.cell (zj w _ hw330_0)).trans hw330_0), ((HB.out.cell (zj w _ hw330_1)).trans hw330_1)⟩ (fun hHeld => ?_)
   clear hK K
   refine norm_ (a' := ?_) ?_ ?_
   rotate_left
   ·show Act.put _ (some 25) _ = _
    simp only [Act.put, List.setIfInBounds_toArray, List.set_cons_zero, List.set_cons_succ, i64_w, i32_w]
    rfl
   refine zP 9 26 b13A10 HT_ ?_
   refine done_ (done_of HT_.out zG106) ?_
   try go_wp2
   go_roundg k1
   case measure => have := HK1.out; omega
   case rel => exact ⟨(wrap64 (x5_1 + 1)), zG105, H', ⟨zH127⟩, ⟨zH104⟩⟩
/-! ### laws_eqSource: function 106 -/
def laws_eqSource.f (k : Nat) (a0_0 : ByteArray) (a0_1 : Int) (l0_2 : List (S124)) (a1_0 : ByteArray) (a1_1 : Int) (l1_2 : List (S124)) : Option (Bool) := if a0_0.toList = a1_0.toList then (if a0_1 = a1_1 then ((laws_eqStockedS.f k l0_2 l1_2).bind fun t334 => (if t334 = true then (some true) else (some false))) else (some false)) else (some false)
theorem laws_eqSource.mono : ∀ a0 a1 a2 a3 a4 a5 k, LeO (laws_eqSource.f k a0 a1 a2 a3 a4 a5) (laws_eqSource.f (k + 1) a0 a1 a2 a3 a4 a5) := by
 intro a0 a1 a2 a3 a4 a5 k
 unfold laws_eqSource.f
 repeat' first
   | (with_reducible exact laws_eqStockedS.mono _ _ _)
   | (with_reducible exact LeO.refl _)
   | (with_reducible exact LeO.none _)
   | (with_reducible refine LeO.ite ?_ ?_)
   | (with_reducible refine LeO.bind ?_ (fun _ => ?_))
   | exact laws_eqStockedS.mono _ _ _
   | exact LeO.none _
   | refine LeO.ite ?_ ?_
   | refine LeO.bind ?_ (fun _ => ?_)
set_option maxHeartbeats 64000000 in
set_option maxRecDepth 100000 in
theorem laws_eqSource.calls (k : Nat) (a0_0 : ByteArray) (a0_1 : Int) (A0_2 : Option Addr) (c0_2 : Nat) (l0_2 : List (S124)) (a1_0 : ByteArray) (a1_1 : Int) (A1_2 : Option Addr) (c1_2 : Nat) (l1_2 : List (S124)) (r : Bool) (w : World) (hr0_2 : Kd.C k124 w A0_2 l0_2.length l0_2) (hc0_2 : l0_2.length ≤ c0_2) (hr1_2 : Kd.C k124 w A1_2 l1_2.length l1_2) (hc1_2 : l1_2.length ≤ c1_2) (h : laws_eqSource.f k a0_0 a0_1 l0_2 a1_0 a1_1 l1_2 = some r) :
  Calls Try.prog 106 #[.agg #[.string a0_0, .int .i64 a0_1, .slice A0_2 l0_2.length c0_2], .agg #[.string a1_0, .int .i64 a1_1, .slice A1_2 l1_2.length c1_2]] w fun e w' => e = .returned (.bool r) ∧ Below w.heap.size w w' := by
 have hu58 := Try.underlying58
 obtain ⟨HR0_2, HC0_2, HR1_2, HC1_2, HB⟩ := zD5 hr0_2 hc0_2 hr1_2 hc1_2 (Below.refl w.heap.size w)
 clear hr0_2 hc0_2 hr1_2 hc1_2
 have H : (if a0_0.toList = a1_0.toList then (if a0_1 = a1_1 then ((laws_eqStockedS.f k l0_2 l1_2).bind fun t334 => (if t334 = true then (some true) else (some false))) else (some false)) else (some false)) = some r := h
 clear h
 by_cases c3 : a0_0.toList = a1_0.toList
 rotate_left
 ·rw [if_neg c3] at H
  have c3b0 : (a0_0.toList == a1_0.toList) = false := beq_eq_false_iff_ne.mpr c3
  have c3b1 : (a0_0.toList != a1_0.toList) = true := bne_iff_ne.mpr c3
  obtain rfl := Option.some.inj H
  go_enter Try.func106, Try.ntmps106
  go_wp2_with (first | ((with_reducible refine gate_dst (N := 2) rfl ?_); refine box_event ?hg (N := 2) ?hd (cs := #[.string a0_0, .int .i64 a0_1, .slice A0_2 l0_2.length c0_2]) (t := 58) ?hr ?_; (case hd => rfl); (case hg => rfl); (case hr => exact zH124); intro gb332 hg w24 hbox hb; have n_ := zA_ (za (zq zG85 hb)) (zA_ (za (hbox)) (zA_ (zN1 w.heap.size hg (zp zG85)) (zN1 w.heap.size hg (zp zG85)))); clear HB; obtain ⟨HB, BK332, GW332, GE332⟩ := n_; clear hb hbox hg) | ((with_reducible refine gate_dst (N := 3) rfl ?_); refine box_event ?hg (N := 3) ?hd (cs := #[.string a1_0, .int .i64 a1_1, .slice A1_2 l1_2.length c1_2]) (t := 58) ?hr ?_; (case hd => rfl); (case hg => rfl); (case hr => exact zH124); intro gb333 hg w25 hbox hb; have n_ := zA_ (za (zo (g := gb332) (o := .cells #[.string a0_0, .int .i64 a0_1, .slice A0_2 l0_2.length c0_2] 58 (0, 0)) zG89 hb)) (zA_ (za (zq zG82 hb)) (zA_ (za (hbox)) (zA_ (zN1 w.heap.size hg (zp zG82)) (zA_ (zN1 w.heap.size hg (zp zG82)) (zN2 hg (zz (g := gb332) (o := .cells #[.string a0_0, .int .i64 a0_1, .slice A0_2 l0_2.length c0_2] 58 (0, 0)) zG89)))))); clear BK332 HB; obtain ⟨BK332, HB, BK333, GW333, GE333, NB332_333, NB333_332⟩ := n_; clear hb hbox hg; have hnb26 := NB332_333.out; have hnc26 := NB333_332.out; obtain ⟨hcz27_0, hcz27_1, hcz27_2, hfz27_0, hfz27_1, hfz27_2⟩ := zB3 BK332.out; obtain ⟨hcz28_0, hcz28_1, hcz28_2, hfz28_0, hfz28_1, hfz28_2⟩ := zB3 BK333.out))
  go_ret
  exact zH25

 rw [if_pos c3] at H
 have c3b0 : (a0_0.toList == a1_0.toList) = true := beq_iff_eq.mpr c3
 have c3b1 : (a0_0.toList != a1_0.toList) = false := bne_eq_false_iff_eq.mpr c3
 clear c3
 by_cases c4 : a0_1 = a1_1
 rotate_left
 ·rw [if_neg c4] at H
  have c4b0 : (a0_1 == a1_1) = false := beq_eq_false_iff_ne.mpr c4
  have c4b1 : (a0_1 != a1_1) = true := bne_iff_ne.mpr c4
  obtain rfl := Option.some.inj H
  go_enter Try.func106, Try.ntmps106
  go_wp2_with (first | ((with_reducible refine gate_dst (N := 2) rfl ?_); refine box_event ?hg (N := 2) ?hd (cs := #[.string a0_0, .int .i64 a0_1, .slice A0_2 l0_2.length c0_2]) (t := 58) ?hr ?_; (case hd => rfl); (case hg => rfl); (case hr => exact zH124); intro gb332 hg w19 hbox hb; have n_ := zA_ (za (zq zG85 hb)) (zA_ (za (hbox)) (zA_ (zN1 w.heap.size hg (zp zG85)) (zN1 w.heap.size hg (zp zG85)))); clear HB; obtain ⟨HB, BK332, GW332, GE332⟩ := n_; clear hb hbox hg) | ((with_reducible refine gate_dst (N := 3) rfl ?_); refine box_event ?hg (N := 3) ?hd (cs := #[.string a1_0, .int .i64 a1_1, .slice A1_2 l1_2.length c1_2]) (t := 58) ?hr ?_; (case hd => rfl); (case hg => rfl); (case hr => exact zH124); intro gb333 hg w20 hbox hb; have n_ := zA_ (za (zo (g := gb332) (o := .cells #[.string a0_0, .int .i64 a0_1, .slice A0_2 l0_2.length c0_2] 58 (0, 0)) zG89 hb)) (zA_ (za (zq zG82 hb)) (zA_ (za (hbox)) (zA_ (zN1 w.heap.size hg (zp zG82)) (zA_ (zN1 w.heap.size hg (zp zG82)) (zN2 hg (zz (g := gb332) (o := .cells #[.string a0_0, .int .i64 a0_1, .slice A0_2 l0_2.length c0_2] 58 (0, 0)) zG89)))))); clear BK332 HB; obtain ⟨BK332, HB, BK333, GW333, GE333, NB332_333, NB333_332⟩ := n_; clear hb hbox hg; have hnb21 := NB332_333.out; have hnc21 := NB333_332.out; obtain ⟨hcz22_0, hcz22_1, hcz22_2, hfz22_0, hfz22_1, hfz22_2⟩ := zB3 BK332.out; obtain ⟨hcz23_0, hcz23_1, hcz23_2, hfz23_0, hfz23_1, hfz23_2⟩ := zB3 BK333.out))
  go_ret
  exact zH25
 rw [if_pos c4] at H
 have c4b0 : (a0_1 == a1_1) = true := beq_iff_eq.mpr c4
 have c4b1 : (a0_1 != a1_1) = false := bne_eq_false_iff_eq.mpr c4
 clear c4
 replace H := Option.bind_eq_some_iff.mp H
 obtain ⟨t334, A50, H⟩ := H
 replace H : (if t334 = true then (some true) else (some false)) = some r := H
 have A5 := za A50
 clear A50
 by_cases c6 : t334 = true
 ·subst c6
  have H1 : (some true) = some r := by rw [if_pos rfl] at H; exact H
  clear H
  have H := H1
  clear H1
  obtain rfl := Option.some.inj H
  go_enter Try.func106, Try.ntmps106
  go_wp2_with (first | ((with_reducible refine gate_dst (N := 2) rfl ?_); refine box_event ?hg (N := 2) ?hd (cs := #[.string a0_0, .int .i64 a0_1, .slice A0_2 l0_2.length c0_2]) (t := 58) ?hr ?_; (case hd => rfl); (case hg => rfl); (case hr => exact zH124); intro gb332 hg w7 hbox hb; have n_ := zA_ (za (zq zG85 hb)) (zA_ (za (hbox)) (zA_ (zN1 w.heap.size hg (zp zG85)) (zN1 w.heap.size hg (zp zG85)))); clear HB; obtain ⟨HB, BK332, GW332, GE332⟩ := n_; clear hb hbox hg) | ((with_reducible refine gate_dst (N := 3) rfl ?_); refine box_event ?hg (N := 3) ?hd (cs := #[.string a1_0, .int .i64 a1_1, .slice A1_2 l1_2.length c1_2]) (t := 58) ?hr ?_; (case hd => rfl); (case hg => rfl); (case hr => exact zH124); intro gb333 hg w8 hbox hb; have n_ := zA_ (za (zo (g := gb332) (o := .cells #[.string a0_0, .int .i64 a0_1, .slice A0_2 l0_2.length c0_2] 58 (0, 0)) zG89 hb)) (zA_ (za (zq zG82 hb)) (zA_ (za (hbox)) (zA_ (zN1 w.heap.size hg (zp zG82)) (zA_ (zN1 w.heap.size hg (zp zG82)) (zN2 hg (zz (g := gb332) (o := .cells #[.string a0_0, .int .i64 a0_1, .slice A0_2 l0_2.length c0_2] 58 (0, 0)) zG89)))))); clear BK332 HB; obtain ⟨BK332, HB, BK333, GW333, GE333, NB332_333, NB333_332⟩ := n_; clear hb hbox hg; have hnb9 := NB332_333.out; have hnc9 := NB333_332.out; obtain ⟨hcz10_0, hcz10_1, hcz10_2, hfz10_0, hfz10_1, hfz10_2⟩ := zB3 BK332.out; obtain ⟨hcz11_0, hcz11_1, hcz11_2, hfz11_0, hfz11_1, hfz11_2⟩ := zB3 BK333.out) | ((with_reducible refine gate_callee (f := 39) rfl ?_); refine goesL_ (some 19) rfl rfl Try.func39 zG106 rfl #[.slice A0_2 l0_2.length c0_2, .slice A1_2 l1_2.length c1_2] rfl zG80 ?_; (with_reducible refine (laws_eqStockedS.calls k _ _ l0_2 _ _ l1_2 true _ ?side1 ?side2 ?side3 ?side4 A5.out).mono ?_); (case side1 => exact zH73); (case side2 => exact HC0_2.out); (case side3 => exact zH71); (case side4 => exact HC1_2.out); rintro e w12 ⟨rfl, hb⟩; refine ⟨_, rfl, ?_⟩; have n_ := zA_ (za (zo (g := gb332) (o := .cells #[.string a0_0, .int .i64 a0_1, .slice A0_2 l0_2.length c0_2] 58 (0, 0)) zG89 hb)) (zA_ (za (zo (g := gb333) (o := .cells #[.string a1_0, .int .i64 a1_1, .slice A1_2 l1_2.length c1_2] 58 (0, 0)) (by (with_reducible repeat (first | refine zc ?_ _ | refine ze ?_ | refine zb ?_ _)); exact BK333.out) hb)) (za (zq zK187 hb))); clear BK332 BK333 HB; obtain ⟨BK332, BK333, HB⟩ := n_; (try clear hb)))
  go_ret
  exact zH25
 replace c6 := Bool.eq_false_iff.mpr c6
 subst c6
 have H1 : (some false) = some r := by rw [if_neg (show ¬ (false = true) by decide)] at H; exact H
 clear H
 have H := H1
 clear H1
 obtain rfl := Option.some.inj H
 go_enter Try.func106, Try.ntmps106
 go_wp2_with (first | ((with_reducible refine gate_dst (N := 2) rfl ?_); refine box_event ?hg (N := 2) ?hd (cs := #[.string a0_0, .int .i64 a0_1, .slice A0_2 l0_2.length c0_2]) (t := 58) ?hr ?_; (case hd => rfl); (case hg => rfl); (case hr => exact zH124); intro gb332 hg w13 hbox hb; have n_ := zA_ (za (zq zG85 hb)) (zA_ (za (hbox)) (zA_ (zN1 w.heap.size hg (zp zG85)) (zN1 w.heap.size hg (zp zG85)))); clear HB; obtain ⟨HB, BK332, GW332, GE332⟩ := n_; clear hb hbox hg) | ((with_reducible refine gate_dst (N := 3) rfl ?_); refine box_event ?hg (N := 3) ?hd (cs := #[.string a1_0, .int .i64 a1_1, .slice A1_2 l1_2.length c1_2]) (t := 58) ?hr ?_; (case hd => rfl); (case hg => rfl); (case hr => exact zH124); intro gb333 hg w14 hbox hb; have n_ := zA_ (za (zo (g := gb332) (o := .cells #[.string a0_0, .int .i64 a0_1, .slice A0_2 l0_2.length c0_2] 58 (0, 0)) zG89 hb)) (zA_ (za (zq zG82 hb)) (zA_ (za (hbox)) (zA_ (zN1 w.heap.size hg (zp zG82)) (zA_ (zN1 w.heap.size hg (zp zG82)) (zN2 hg (zz (g := gb332) (o := .cells #[.string a0_0, .int .i64 a0_1, .slice A0_2 l0_2.length c0_2] 58 (0, 0)) zG89)))))); clear BK332 HB; obtain ⟨BK332, HB, BK333, GW333, GE333, NB332_333, NB333_332⟩ := n_; clear hb hbox hg; have hnb15 := NB332_333.out; have hnc15 := NB333_332.out; obtain ⟨hcz16_0, hcz16_1, hcz16_2, hfz16_0, hfz16_1, hfz16_2⟩ := zB3 BK332.out; obtain ⟨hcz17_0, hcz17_1, hcz17_2, hfz17_0, hfz17_1, hfz17_2⟩ := zB3 BK333.out) | ((with_reducible refine gate_callee (f := 39) rfl ?_); refine goesL_ (some 19) rfl rfl Try.func39 zG106 rfl #[.slice A0_2 l0_2.length c0_2, .slice A1_2 l1_2.length c1_2] rfl zG80 ?_; (with_reducible refine (laws_eqStockedS.calls k _ _ l0_2 _ _ l1_2 false _ ?side1 ?side2 ?side3 ?side4 A5.out).mono ?_); (case side1 => exact zH73); (case side2 => exact HC0_2.out); (case side3 => exact zH71); (case side4 => exact HC1_2.out); rintro e w18 ⟨rfl, hb⟩; refine ⟨_, rfl, ?_⟩; have n_ := zA_ (za (zo (g := gb332) (o := .cells #[.string a0_0, .int .i64 a0_1, .slice A0_2 l0_2.length c0_2] 58 (0, 0)) zG89 hb)) (zA_ (za (zo (g := gb333) (o := .cells #[.string a1_0, .int .i64 a1_1, .slice A1_2 l1_2.length c1_2] 58 (0, 0)) (by (with_reducible repeat (first | refine zc ?_ _ | refine ze ?_ | refine zb ?_ _)); exact BK333.out) hb)) (za (zq zK187 hb))); clear BK332 BK333 HB; obtain ⟨BK332, BK333, HB⟩ := n_; (try clear hb)))
 go_ret
 exact zH25
end Go.Proofs.Ytojncbpeeboooaa.V
