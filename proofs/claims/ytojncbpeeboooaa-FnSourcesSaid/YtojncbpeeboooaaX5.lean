-- squeezed
-- made by pp.py (wip/tools) out of the translation; Lean checks it
import Derived.Laws.Cover3
import Derived.Test.YtojncbpeeboooaaX0
import Derived.Test.YtojncbpeeboooaaX4
namespace Go.Proofs.Ytojncbpeeboooaa.X
open Go.RowKit Go.Proofs.YtojncbpeeboooaaW.PrintWords Go.Proofs.YtojncbpeeboooaaW.PrintLast Go.Proofs.YtojncbpeeboooaaW.PrintMore
attribute [local go_sem] max2_int min2_int max_two min_two max_three min_three max_four min_four   -- for this text's walks alone
set_option linter.unusedVariables false
set_option linter.unusedSimpArgs false


/-! ### slices_IndexFunc_at_impl_Source_gives_1: function 500001 -/
def slices_IndexFunc_at_impl_Source_gives_1.l0 : Nat → List (S124) → Int → Int → ByteArray → Int → Option (Int)
 | 0, _, _, _, _, _ => none
 | k + 1, x0, x7, x8, x29000, x29001 => if x8 < x7 then (if 0 ≤ x8 then (if x8 < (x0.length : Int) then ((impl_Source_gives_1.f ((rd_T124 x0 x8).f0) ((rd_T124 x0 x8).f1) x29000 x29001).bind fun t219 => (if t219 = true then (some x8) else (slices_IndexFunc_at_impl_Source_gives_1.l0 k x0 x7 (wrap64 (x8 + 1)) x29000 x29001))) else (none)) else (none)) else (some (-1))
def slices_IndexFunc_at_impl_Source_gives_1.f (k : Nat) (l0 : List (S124)) (a1_0 : ByteArray) (a1_1 : Int) : Option (Int) := slices_IndexFunc_at_impl_Source_gives_1.l0 k l0 (l0.length : Int) 0 a1_0 a1_1
theorem slices_IndexFunc_at_impl_Source_gives_1.mono_l : ∀ k, (∀ y0 y1 y2 y3 y4, LeO (slices_IndexFunc_at_impl_Source_gives_1.l0 k y0 y1 y2 y3 y4) (slices_IndexFunc_at_impl_Source_gives_1.l0 (k + 1) y0 y1 y2 y3 y4))
 | 0 => fun _ _ _ _ _ r h => by simp [slices_IndexFunc_at_impl_Source_gives_1.l0] at h
 | k + 1 => by
  have ih0 := slices_IndexFunc_at_impl_Source_gives_1.mono_l k
  ·intro y0 y1 y2 y3 y4
   unfold slices_IndexFunc_at_impl_Source_gives_1.l0
   repeat' first
   | (with_reducible exact ih0 _ _ _ _ _)
   | (with_reducible exact LeO.refl _)
   | (with_reducible exact LeO.none _)
   | (with_reducible refine LeO.ite ?_ ?_)
   | (with_reducible refine LeO.bind ?_ (fun _ => ?_))
   | exact ih0 _ _ _ _ _
   | exact LeO.none _
   | refine LeO.ite ?_ ?_
   | refine LeO.bind ?_ (fun _ => ?_)
theorem slices_IndexFunc_at_impl_Source_gives_1.mono : ∀ a0 a1 a2 k, LeO (slices_IndexFunc_at_impl_Source_gives_1.f k a0 a1 a2) (slices_IndexFunc_at_impl_Source_gives_1.f (k + 1) a0 a1 a2) := by
 intro a0 a1 a2 k
 have ih0 := slices_IndexFunc_at_impl_Source_gives_1.mono_l k
 unfold slices_IndexFunc_at_impl_Source_gives_1.f
 repeat' first
   | (with_reducible exact ih0 _ _ _ _ _)
   | (with_reducible exact LeO.refl _)
   | (with_reducible exact LeO.none _)
   | (with_reducible refine LeO.ite ?_ ?_)
   | (with_reducible refine LeO.bind ?_ (fun _ => ?_))
   | exact ih0 _ _ _ _ _
   | exact LeO.none _
   | refine LeO.ite ?_ ?_
   | refine LeO.bind ?_ (fun _ => ?_)
set_option maxHeartbeats 64000000 in
set_option maxRecDepth 100000 in
theorem slices_IndexFunc_at_impl_Source_gives_1.calls (k : Nat) (A0 : Option Addr) (c0 : Nat) (l0 : List (S124)) (gc1_0 : Nat) (a1_0 : ByteArray) (a1_1 : Int) (r : Int) (w : World) (hr0 : Kd.C k124 w A0 l0.length l0) (hc0 : l0.length ≤ c0) (hk1_0 : w.heap[gc1_0]? = some (.cells #[.string a1_0, .int .i64 a1_1] 124 (0, 0))) (h : slices_IndexFunc_at_impl_Source_gives_1.f k l0 a1_0 a1_1 = some r) :
  Calls Try.prog 146 #[.slice A0 l0.length c0, .func (.func 126) #[] #[.pointer (some ⟨gc1_0, 0, none⟩)]] w fun e w' => e = .returned (.int .i64 r) ∧ Below w.heap.size w w' := by
 have hu124 := Try.underlying124
 obtain ⟨HR0, HC0, BK28, HB⟩ := zD4 hr0 hc0 hk1_0 (Below.refl w.heap.size w)
 clear hr0 hc0 hk1_0
 have H : (slices_IndexFunc_at_impl_Source_gives_1.l0 k l0 (l0.length : Int) 0 a1_0 a1_1) = some r := h
 clear h
 have H' := za H
 clear H
 go_enter Try.func146, Try.ntmps146
 go_wp2
 go_loopg [8] k (fun kq v8 w' => ∃ (x8_1 : Int), v8 = .int .i64 x8_1 ∧ Aside0 (slices_IndexFunc_at_impl_Source_gives_1.l0 kq l0 (l0.length : Int) x8_1 a1_0 a1_1 = some r) ∧ Aside0 (kq ≤ k) ∧ Aside0 (w'.heap[gc1_0]? = some (.cells #[.string a1_0, .int .i64 a1_1] 124 (0, 0))) ∧ Aside0 (Below w.heap.size w w'))
 case atStart => exact ⟨(0), zG127, H', ⟨Nat.le_refl _⟩, ⟨zH104⟩, ⟨zH85⟩⟩
 case round =>
  clear H'
  obtain ⟨x8_1, rfl, HA, HK1, BK28, HB⟩ := hrel
  cases gk with
  | zero => exact absurd HA.out (by simp [slices_IndexFunc_at_impl_Source_gives_1.l0])
  | succ k1 =>
   have H := HA.out
   clear HA
   simp only [slices_IndexFunc_at_impl_Source_gives_1.l0] at H
   by_cases c3 : x8_1 < (l0.length : Int)
   rotate_left
   ·rw [if_neg c3] at H
    have c3b0 := decide_eq_false c3
    clear c3
    obtain rfl := Option.some.inj H
    go_wp2
    go_ret
    exact zH30

   rw [if_pos c3] at H
   have c3b0 := decide_eq_true c3
   clear c3
   by_cases c4 : 0 ≤ x8_1
   rotate_left
   ·rw [if_neg c4] at H
    exact absurd H (by simp)
   rw [if_pos c4] at H
   have c4b0 := decide_eq_true c4
   clear c4
   by_cases c5 : x8_1 < (l0.length : Int)
   rotate_left
   ·rw [if_neg c5] at H
    exact absurd H (by simp)
   rw [if_pos c5] at H
   have c5b0 := decide_eq_true c5
   clear c5
   replace H := Option.bind_eq_some_iff.mp H
   obtain ⟨t219, A60, H⟩ := H
   replace H : (if t219 = true then (some x8_1) else (slices_IndexFunc_at_impl_Source_gives_1.l0 k1 l0 (l0.length : Int) (wrap64 (x8_1 + 1)) a1_0 a1_1)) = some r := H
   have A6 := za A60
   clear A60
   by_cases c7 : t219 = true
   ·subst c7
    have H1 : (some x8_1) = some r := by rw [if_pos rfl] at H; exact H
    clear H
    have H := H1
    clear H1
    obtain rfl := Option.some.inj H
    have p218 : 0 ≤ (x8_1 : Int) := zO
    have q218 : x8_1 < (l0.length : Int) := zO
    obtain ⟨ad218, e218, hx218_0, hx218_1⟩ := at_T124 HR0.out x8_1 p218 q218
    cases e218
    replace hx218_0 := (HB.out.cell (zn w _ hx218_0)).trans hx218_0
    replace hx218_1 := (HB.out.cell (zn w _ hx218_1)).trans hx218_1
    replace p218 := eq_true p218
    replace q218 := eq_true q218
    go_wp2_with (first | (go_at_call 126; (with_reducible refine (impl_Source_gives_1.calls ((rd_T124 l0 x8_1).f0) ((rd_T124 l0 x8_1).f1) gc1_0 a1_0 a1_1 true _ ?side1 A6.out).mono ?_); (case side1 => exact zH95); rintro e w8 ⟨rfl, hb⟩; have n_ := zA_ (za (zp (g := gc1_0) (o := .cells #[.string a1_0, .int .i64 a1_1] 124 (0, 0)) zK236 hb)) (za (zu zK222 hb)); clear BK28 HB; obtain ⟨BK28, HB⟩ := n_; (try clear hb)))
    go_ret
    exact zH30
   replace c7 := Bool.eq_false_iff.mpr c7
   subst c7
   have H1 : (slices_IndexFunc_at_impl_Source_gives_1.l0 k1 l0 (l0.length : Int) (wrap64 (x8_1 + 1)) a1_0 a1_1) = some r := by rw [if_neg (show ¬ (false = true) by decide)] at H; exact H
   clear H
   have H := H1
   clear H1
   have H' := za H
   clear H
   have p218 : 0 ≤ (x8_1 : Int) := zO
   have q218 : x8_1 < (l0.length : Int) := zO
   obtain ⟨ad218, e218, hx218_0, hx218_1⟩ := at_T124 HR0.out x8_1 p218 q218
   cases e218
   replace hx218_0 := (HB.out.cell (zn w _ hx218_0)).trans hx218_0
   replace hx218_1 := (HB.out.cell (zn w _ hx218_1)).trans hx218_1
   replace p218 := eq_true p218
   replace q218 := eq_true q218
   go_wp2_with (first | (go_at_call 126; (with_reducible refine (impl_Source_gives_1.calls ((rd_T124 l0 x8_1).f0) ((rd_T124 l0 x8_1).f1) gc1_0 a1_0 a1_1 false _ ?side1 A6.out).mono ?_); (case side1 => exact zH95); rintro e w9 ⟨rfl, hb⟩; have n_ := zA_ (za (zp (g := gc1_0) (o := .cells #[.string a1_0, .int .i64 a1_1] 124 (0, 0)) zK236 hb)) (za (zu zK222 hb)); clear BK28 HB; obtain ⟨BK28, HB⟩ := n_; (try clear hb)))
   go_roundg k1
   case measure => have := HK1.out; omega
   case rel => exact ⟨(wrap64 (x8_1 + 1)), zG127, H', ⟨zH124⟩, ⟨zH104⟩, ⟨zH85⟩⟩
/-! ### slices_ContainsFunc_at_impl_Source_gives_1: function 500000 -/
def slices_ContainsFunc_at_impl_Source_gives_1.f (k : Nat) (l0 : List (S124)) (a1_0 : ByteArray) (a1_1 : Int) : Option (Bool) := (slices_IndexFunc_at_impl_Source_gives_1.f k l0 a1_0 a1_1).bind fun t220 => (some (decide (t220 ≥ 0)))
theorem slices_ContainsFunc_at_impl_Source_gives_1.mono : ∀ a0 a1 a2 k, LeO (slices_ContainsFunc_at_impl_Source_gives_1.f k a0 a1 a2) (slices_ContainsFunc_at_impl_Source_gives_1.f (k + 1) a0 a1 a2) := by
 intro a0 a1 a2 k
 unfold slices_ContainsFunc_at_impl_Source_gives_1.f
 repeat' first
   | (with_reducible exact slices_IndexFunc_at_impl_Source_gives_1.mono _ _ _ _)
   | (with_reducible exact LeO.refl _)
   | (with_reducible exact LeO.none _)
   | (with_reducible refine LeO.ite ?_ ?_)
   | (with_reducible refine LeO.bind ?_ (fun _ => ?_))
   | exact slices_IndexFunc_at_impl_Source_gives_1.mono _ _ _ _
   | exact LeO.none _
   | refine LeO.ite ?_ ?_
   | refine LeO.bind ?_ (fun _ => ?_)
set_option maxHeartbeats 64000000 in
set_option maxRecDepth 100000 in
theorem slices_ContainsFunc_at_impl_Source_gives_1.calls (k : Nat) (A0 : Option Addr) (c0 : Nat) (l0 : List (S124)) (gc1_0 : Nat) (a1_0 : ByteArray) (a1_1 : Int) (r : Bool) (w : World) (hr0 : Kd.C k124 w A0 l0.length l0) (hc0 : l0.length ≤ c0) (hk1_0 : w.heap[gc1_0]? = some (.cells #[.string a1_0, .int .i64 a1_1] 124 (0, 0))) (h : slices_ContainsFunc_at_impl_Source_gives_1.f k l0 a1_0 a1_1 = some r) :
  Calls Try.prog 125 #[.slice A0 l0.length c0, .func (.func 126) #[] #[.pointer (some ⟨gc1_0, 0, none⟩)]] w fun e w' => e = .returned (.bool r) ∧ Below w.heap.size w w' := by
 obtain ⟨HR0, HC0, BK28, HB⟩ := zD4 hr0 hc0 hk1_0 (Below.refl w.heap.size w)
 clear hr0 hc0 hk1_0
 have H : ((slices_IndexFunc_at_impl_Source_gives_1.f k l0 a1_0 a1_1).bind fun t220 => (some (decide (t220 ≥ 0)))) = some r := h
 clear h
 replace H := Option.bind_eq_some_iff.mp H
 obtain ⟨t220, A30, H⟩ := H
 replace H : (some (decide (t220 ≥ 0))) = some r := H
 have A3 := za A30
 clear A30
 obtain rfl := Option.some.inj H
 go_enter Try.func125, Try.ntmps125
 go_wp2_with (first | ((with_reducible refine gate_callee (f := 146) rfl ?_); refine goesL_ (some 7) rfl rfl Try.func146 zG128 rfl #[.slice A0 l0.length c0, .func (.func 126) #[] #[.pointer (some ⟨gc1_0, 0, none⟩)]] rfl zG97 ?_; (with_reducible refine (slices_IndexFunc_at_impl_Source_gives_1.calls k _ _ l0 gc1_0 a1_0 a1_1 t220 _ ?side1 ?side2 ?side3 A3.out).mono ?_); (case side1 => exact zH78); (case side2 => exact zH128); (case side3 => exact zH95); rintro e w4 ⟨rfl, hb⟩; refine ⟨_, rfl, ?_⟩; have n_ := zA_ (za (zp (g := gc1_0) (o := .cells #[.string a1_0, .int .i64 a1_1] 124 (0, 0)) zK236 hb)) (za (zu zK222 hb)); clear BK28 HB; obtain ⟨BK28, HB⟩ := n_; (try clear hb)))
 go_ret
 exact zH30

/-! ### impl_Source_gives: function 83 -/
def impl_Source_gives.f (k : Nat) (a0_0 : ByteArray) (a0_1 : Int) (l0_2 : List (S124)) (a1_0 : ByteArray) (a1_1 : Int) : Option (Bool) := (slices_ContainsFunc_at_impl_Source_gives_1.f k l0_2 a1_0 a1_1).bind fun t223 => (some t223)
theorem impl_Source_gives.mono : ∀ a0 a1 a2 a3 a4 k, LeO (impl_Source_gives.f k a0 a1 a2 a3 a4) (impl_Source_gives.f (k + 1) a0 a1 a2 a3 a4) := by
 intro a0 a1 a2 a3 a4 k
 unfold impl_Source_gives.f
 repeat' first
   | (with_reducible exact slices_ContainsFunc_at_impl_Source_gives_1.mono _ _ _ _)
   | (with_reducible exact LeO.refl _)
   | (with_reducible exact LeO.none _)
   | (with_reducible refine LeO.ite ?_ ?_)
   | (with_reducible refine LeO.bind ?_ (fun _ => ?_))
   | exact slices_ContainsFunc_at_impl_Source_gives_1.mono _ _ _ _
   | exact LeO.none _
   | refine LeO.ite ?_ ?_
   | refine LeO.bind ?_ (fun _ => ?_)
set_option maxHeartbeats 64000000 in
set_option maxRecDepth 100000 in
theorem impl_Source_gives.calls (k : Nat) (a0_0 : ByteArray) (a0_1 : Int) (A0_2 : Option Addr) (c0_2 : Nat) (l0_2 : List (S124)) (a1_0 : ByteArray) (a1_1 : Int) (r : Bool) (w : World) (hr0_2 : Kd.C k124 w A0_2 l0_2.length l0_2) (hc0_2 : l0_2.length ≤ c0_2) (h : impl_Source_gives.f k a0_0 a0_1 l0_2 a1_0 a1_1 = some r) :
  Calls Try.prog 83 #[.agg #[.string a0_0, .int .i64 a0_1, .slice A0_2 l0_2.length c0_2], .agg #[.string a1_0, .int .i64 a1_1]] w fun e w' => e = .returned (.bool r) ∧ Below w.heap.size w w' := by
 have hu58 := Try.underlying58
 have hu124 := Try.underlying124
 obtain ⟨HR0_2, HC0_2, HB⟩ := zD3 hr0_2 hc0_2 (Below.refl w.heap.size w)
 clear hr0_2 hc0_2
 have H : ((slices_ContainsFunc_at_impl_Source_gives_1.f k l0_2 a1_0 a1_1).bind fun t223 => (some t223)) = some r := h
 clear h
 replace H := Option.bind_eq_some_iff.mp H
 obtain ⟨t223, A30, H⟩ := H
 replace H : (some t223) = some r := H
 have A3 := za A30
 clear A30
 obtain rfl := Option.some.inj H
 go_enter Try.func83, Try.ntmps83
 go_wp2_with (first | ((with_reducible refine gate_dst (N := 2) rfl ?_); refine box_event ?hg (N := 2) ?hd (cs := #[.string a0_0, .int .i64 a0_1, .slice A0_2 l0_2.length c0_2]) (t := 58) ?hr ?_; (case hd => rfl); (case hg => rfl); (case hr => exact zH119); intro gb221 hg w4 hbox hb; have n_ := zA_ (za (zu zG102 hb)) (zA_ (za (hbox)) (zA_ (zN1 w.heap.size hg (zq zG102)) (zN1 w.heap.size hg (zq zG102)))); clear HB; obtain ⟨HB, BK221, GW221, GE221⟩ := n_; clear hb hbox hg) | ((with_reducible refine gate_dst (N := 3) rfl ?_); refine box_event ?hg (N := 3) ?hd (cs := #[.string a1_0, .int .i64 a1_1]) (t := 124) ?hr ?_; (case hd => rfl); (case hg => rfl); (case hr => exact zH119); intro gb222 hg w5 hbox hb; have n_ := zA_ (za (zp (g := gb221) (o := .cells #[.string a0_0, .int .i64 a0_1, .slice A0_2 l0_2.length c0_2] 58 (0, 0)) zK235 hb)) (zA_ (za (zu zK221 hb)) (zA_ (za (hbox)) (zA_ (zN1 w.heap.size hg (zq zK221)) (zA_ (zN1 w.heap.size hg (zq zK221)) (zN2 hg (zz (g := gb221) (o := .cells #[.string a0_0, .int .i64 a0_1, .slice A0_2 l0_2.length c0_2] 58 (0, 0)) zK235)))))); clear BK221 HB; obtain ⟨BK221, HB, BK222, GW222, GE222, NB221_222, NB222_221⟩ := n_; clear hb hbox hg; have hnb6 := NB221_222.out; have hnc6 := NB222_221.out; obtain ⟨hcz7_0, hcz7_1, hcz7_2, hfz7_0, hfz7_1, hfz7_2⟩ := zB3 BK221.out) | ((with_reducible refine gate_callee (f := 125) rfl ?_); refine goesL_ (some 8) rfl rfl Try.func125 zG128 rfl #[.slice A0_2 l0_2.length c0_2, .func (.func 126) #[] #[.pointer (some ⟨gb222, 0, none⟩)]] rfl zG97 ?_; (with_reducible refine (slices_ContainsFunc_at_impl_Source_gives_1.calls k _ _ l0_2 gb222 a1_0 a1_1 t223 _ ?side1 ?side2 ?side3 A3.out).mono ?_); (case side1 => repeat (first | exact (zai HR0_2.out HB.out) | (with_reducible refine zab ?_ _) | (with_reducible refine zac ?_ _) | (with_reducible refine zad ?_))); (case side2 => exact HC0_2.out); (case side3 => exact (by (with_reducible repeat (first | refine zc ?_ _ | refine zd ?_ | refine zb ?_ _)); exact BK222.out)); rintro e w8 ⟨rfl, hb⟩; refine ⟨_, rfl, ?_⟩; have n_ := zA_ (za (zp (g := gb221) (o := .cells #[.string a0_0, .int .i64 a0_1, .slice A0_2 l0_2.length c0_2] 58 (0, 0)) zK235 hb)) (zA_ (za (zp (g := gb222) (o := .cells #[.string a1_0, .int .i64 a1_1] 124 (0, 0)) (by (with_reducible repeat (first | refine zc ?_ _ | refine zd ?_ | refine zb ?_ _)); exact BK222.out) hb)) (za (zu (by repeat (first | (with_reducible first | exact HB.out | apply zh | apply zf | apply zg | refine ze ?_ GE221.out | refine ze ?_ GE222.out) | exact HB.out)) hb))); clear BK221 BK222 HB; obtain ⟨BK221, BK222, HB⟩ := n_; (try clear hb)))
 go_ret
 exact ⟨zH111, by repeat (first | (with_reducible first | exact HB.out | apply zh | apply zf | apply zg | refine ze ?_ GE221.out | refine ze ?_ GE222.out) | exact HB.out)⟩

/-! ### slices_Clone_int_int: function 84 -/
def slices_Clone_int_int.f (l0 : List Int) : Option (List Int) := (some (([] : List Int) : List Int)).bind fun y224 => (if y224.length + l0.length < 17592186044416 then (some (y224 ++ l0)) else (none))
set_option maxHeartbeats 64000000 in
set_option maxRecDepth 100000 in
theorem slices_Clone_int_int.calls (A0 : Option Addr) (c0 : Nat) (l0 : List Int) (r : List Int) (w : World) (hr0 : Kd.C (Kd.int .i64) w A0 l0.length l0) (hc0 : l0.length ≤ c0) (h : slices_Clone_int_int.f l0 = some r) :
  Calls Try.prog 84 #[.slice A0 l0.length c0] w fun e w' => ∃ v0_ : Value, e = .returned (v0_) ∧ Kd.R (Kd.int .i64) 3 w' w.heap.size (fun _ => True) v0_ r ∧ Below w.heap.size w w' := by
 obtain ⟨HR0, HC0, HB⟩ := zD3 hr0 hc0 (Below.refl w.heap.size w)
 clear hr0 hc0
 have H : ((some (([] : List Int) : List Int)).bind fun y224 => (if y224.length + l0.length < 17592186044416 then (some (y224 ++ l0)) else (none))) = some r := h
 clear h
 by_cases hA_ : A0 = none
 ·subst hA_
  have hl_ : l0 = [] := by
   cases l0 with
   | nil => rfl
   | cons x_ xs_ => obtain ⟨ad_, c_, e_, _⟩ := Kd.C_get HR0.out x_ 0 zG129 (by simp); cases e_
  subst hl_
  have e_ : [] = r := by simpa using H
  subst e_
  go_enter Try.func84, Try.ntmps84
  have hnil0_ : ∀ (W_ : World) (n_ c_ : Nat), (binOp .eql 24 (.slice none n_ c_) (.slice none 0 0)).run Try.prog W_ = .ok (.bool true) W_ := fun W_ n_ c_ => by simp only [binOp]; simp [run_equal_slice_nil W_ 24 3 none n_ c_ Try.underlying24]
  go_wp2
  go_ret
  exact ⟨_, rfl, zba _ _ _ _ _, HB.out⟩
 have hnil0_ : ∀ (W_ : World) (n_ c_ : Nat), (binOp .eql 24 (.slice A0 n_ c_) (.slice none 0 0)).run Try.prog W_ = .ok (.bool false) W_ := fun W_ n_ c_ => by cases A0 with | none => exact absurd rfl hA_ | some ad_ => simp only [binOp]; simp [run_equal_slice_nil W_ 24 3 (some ad_) n_ c_ Try.underlying24]
 obtain ⟨y224, hy224⟩ : ∃ y_ : List Int, y_ = (([] : List Int)) := ⟨_, rfl⟩
 replace H : (if y224.length + l0.length < 17592186044416 then (some (y224 ++ l0)) else (none)) = some r := by first | (rw [hy224]; with_reducible exact H) | (have H2_ := (Option.bind_some _ _).symm.trans H; rw [hy224]; with_reducible exact H2_) | (have H2_ := (Option.bind_some _ _).symm.trans H; with_reducible exact H2_) | with_reducible exact H | (rw [hy224]; exact H) | exact H
 have Ny224 := za hy224
 clear hy224
 by_cases c2 : y224.length + l0.length < 17592186044416
 rotate_left
 ·rw [if_neg c2] at H
  exact absurd H (by simp)

 rw [if_pos c2] at H
 have LMc2 := za c2
 clear c2
 obtain ⟨y227, hy227⟩ : ∃ y_ : List Int, y_ = (y224 ++ l0) := ⟨_, rfl⟩
 replace H : (some y227) = some r := by first | (rw [hy227]; with_reducible exact H) | (have H2_ := (Option.bind_some _ _).symm.trans H; rw [hy227]; with_reducible exact H2_) | (have H2_ := (Option.bind_some _ _).symm.trans H; with_reducible exact H2_) | with_reducible exact H | (rw [hy227]; exact H) | exact H
 have Ny227 := za hy227
 clear hy227
 obtain rfl := Option.some.inj H
 go_enter Try.func84, Try.ntmps84
 go_wp2_with (first | ((with_reducible refine gate_dst (N := 5) rfl ?_); refine zbp (Kd.int .i64) _ 3 ?hg (N := 5) ?hd (xs := ([] : List Int)) (inner := []) (ok := fun _ => True) (okp := fun _ => True) ?hr ?hp (fun _ hk => hk) trivial (Below.refl _ _) (Nat.le_refl _) (by simp) ?_; (case hd => rfl); (case hg => rfl); (case hr => exact zH119); (case hp => exact zH126); intro v225 w3 ho4 hb hg_ hnew_; clear hg_ hnew_; (first | rw [← Ny224.out] at ho4 | (simp only [Int.reduceToNat] at ho4; rw [← Ny224.out] at ho4)); have n_ := zA_ (za (zam ho4 (zq zG102))) (za (zu zG102 hb)); clear HB; obtain ⟨HO226, HB⟩ := n_; clear hb ho4) | ((with_reducible refine gate_builtin (b := .append) (xs := #[.tmp 5, .tmp 6]) rfl ?_); at_builtin; refine Kd.R_append_rows (Kd.int .i64) (w0 := w) w.heap.size rfl (.tmp 5) (.tmp 6) 24 3 (.int .i64 0) 8 rfl Try.underlying24 info3 rfl zG129 (by omega) v225 y224 l0 _ _ _ (fun _ => True) (fun _ => False) rfl rfl ?aO ?aR (fun _ _ h => h) (fun _ h => h.elim) ?aF ?aB ?aS ?aL ?_; (case aR => exact zH67); (case aB => exact zG102); (case aF => exact zH121); (case aO => exact (by (with_reducible repeat (first | apply zj | apply zk | apply zl)); exact HO226.out)); (case aS => exact (zq zG102)); (case aL => have := LMc2.out; omega); intro v228 w5 ho hb hg hat; rw [← Ny227.out] at ho; have n_ := zA_ (za (hb)) (za (ho)); clear HB HO226; obtain ⟨HB, HO229⟩ := n_; clear ho hb hg hat))
 go_ret
 exact ⟨_, zH111, by (with_reducible repeat (first | apply zj | apply zk | apply zl)); exact HO229.out, zH98⟩
/-! ### slices_Index_int_int: function 144 -/
def slices_Index_int_int.l0 : Nat → List Int → Int → Int → Int → Option (Int)
 | 0, _, _, _, _ => none
 | k + 1, x0, x1, x7, x8 => if x8 < x7 then (if 0 ≤ x8 then (if x8 < (x0.length : Int) then (if x1 = (rd x0 x8) then (some x8) else (slices_Index_int_int.l0 k x0 x1 x7 (wrap64 (x8 + 1)))) else (none)) else (none)) else (some (-1))
def slices_Index_int_int.f (k : Nat) (l0 : List Int) (a1 : Int) : Option (Int) := slices_Index_int_int.l0 k l0 a1 (l0.length : Int) 0
theorem slices_Index_int_int.mono_l : ∀ k, (∀ y0 y1 y2 y3, LeO (slices_Index_int_int.l0 k y0 y1 y2 y3) (slices_Index_int_int.l0 (k + 1) y0 y1 y2 y3))
 | 0 => fun _ _ _ _ r h => by simp [slices_Index_int_int.l0] at h
 | k + 1 => by
  have ih0 := slices_Index_int_int.mono_l k
  ·intro y0 y1 y2 y3
   unfold slices_Index_int_int.l0
   repeat' first
   | (with_reducible exact ih0 _ _ _ _)
   | (with_reducible exact LeO.refl _)
   | (with_reducible exact LeO.none _)
   | (with_reducible refine LeO.ite ?_ ?_)
   | (with_reducible refine LeO.bind ?_ (fun _ => ?_))
   | exact ih0 _ _ _ _
   | exact LeO.none _
   | refine LeO.ite ?_ ?_
   | refine LeO.bind ?_ (fun _ => ?_)
theorem slices_Index_int_int.mono : ∀ a0 a1 k, LeO (slices_Index_int_int.f k a0 a1) (slices_Index_int_int.f (k + 1) a0 a1) := by
 intro a0 a1 k
 have ih0 := slices_Index_int_int.mono_l k
 unfold slices_Index_int_int.f
 repeat' first
   | (with_reducible exact ih0 _ _ _ _)
   | (with_reducible exact LeO.refl _)
   | (with_reducible exact LeO.none _)
   | (with_reducible refine LeO.ite ?_ ?_)
   | (with_reducible refine LeO.bind ?_ (fun _ => ?_))
   | exact ih0 _ _ _ _
   | exact LeO.none _
   | refine LeO.ite ?_ ?_
   | refine LeO.bind ?_ (fun _ => ?_)
set_option maxHeartbeats 64000000 in
set_option maxRecDepth 100000 in
theorem slices_Index_int_int.calls (k : Nat) (A0 : Option Addr) (c0 : Nat) (l0 : List Int) (a1 : Int) (r : Int) (w : World) (hr0 : Kd.C (Kd.int .i64) w A0 l0.length l0) (hc0 : l0.length ≤ c0) (h : slices_Index_int_int.f k l0 a1 = some r) :
  Calls Try.prog 144 #[.slice A0 l0.length c0, .int .i64 a1] w fun e w' => e = .returned (.int .i64 r) ∧ Drawn0 w w' := by
 obtain ⟨HR0, HC0⟩ := zD2 hr0 hc0
 clear hr0 hc0
 have H : (slices_Index_int_int.l0 k l0 a1 (l0.length : Int) 0) = some r := h
 clear h
 have H' := za H
 clear H
 go_enter Try.func144, Try.ntmps144
 go_wp2
 go_loopg [8] k (fun kq v8 w' => ∃ (x8_1 : Int), v8 = .int .i64 x8_1 ∧ Aside0 (slices_Index_int_int.l0 kq l0 a1 (l0.length : Int) x8_1 = some r) ∧ Aside0 (kq ≤ k) ∧ Drawn0 w w')
 case atStart => exact ⟨(0), zG127, H', ⟨Nat.le_refl _⟩, zH115⟩
 case round =>
  clear H'
  obtain ⟨x8_1, rfl, HA, HK1, ⟨m1, rfl⟩⟩ := hrel
  cases gk with
  | zero => exact absurd HA.out (by simp [slices_Index_int_int.l0])
  | succ k1 =>
   have H := HA.out
   clear HA
   simp only [slices_Index_int_int.l0] at H
   by_cases c3 : x8_1 < (l0.length : Int)
   rotate_left
   ·rw [if_neg c3] at H
    have c3b0 := decide_eq_false c3
    clear c3
    obtain rfl := Option.some.inj H
    go_wp2
    go_ret
    exact zH89

   rw [if_pos c3] at H
   have c3b0 := decide_eq_true c3
   clear c3
   by_cases c4 : 0 ≤ x8_1
   rotate_left
   ·rw [if_neg c4] at H
    exact absurd H (by simp)
   rw [if_pos c4] at H
   have c4b0 := decide_eq_true c4
   clear c4
   by_cases c5 : x8_1 < (l0.length : Int)
   rotate_left
   ·rw [if_neg c5] at H
    exact absurd H (by simp)
   rw [if_pos c5] at H
   have c5b0 := decide_eq_true c5
   clear c5
   by_cases c6 : a1 = (rd l0 x8_1)
   ·rw [if_pos c6] at H
    have c6b0 : (a1 == (rd l0 x8_1)) = true := beq_iff_eq.mpr c6
    have c6b1 : (a1 != (rd l0 x8_1)) = false := bne_eq_false_iff_eq.mpr c6
    clear c6
    obtain rfl := Option.some.inj H
    have p230 : 0 ≤ (x8_1 : Int) := zO
    have q230 : x8_1 < (l0.length : Int) := zO
    obtain ⟨ad230, e230, hx230_0⟩ := zbc HR0.out x8_1 p230 q230
    cases e230
    replace p230 := eq_true p230
    replace q230 := eq_true q230
    go_wp2
    go_ret
    exact zH89
   rw [if_neg c6] at H
   have c6b0 : (a1 == (rd l0 x8_1)) = false := beq_eq_false_iff_ne.mpr c6
   have c6b1 : (a1 != (rd l0 x8_1)) = true := bne_iff_ne.mpr c6
   have H' := za H
   clear H
   have p230 : 0 ≤ (x8_1 : Int) := zO
   have q230 : x8_1 < (l0.length : Int) := zO
   obtain ⟨ad230, e230, hx230_0⟩ := zbc HR0.out x8_1 p230 q230
   cases e230
   replace p230 := eq_true p230
   replace q230 := eq_true q230
   go_wp2
   go_roundg k1
   case measure => have := HK1.out; omega
   case rel => exact ⟨(wrap64 (x8_1 + 1)), zG127, H', ⟨zH124⟩, zH115⟩
/-! ### slices_Contains_int_int: function 118 -/
def slices_Contains_int_int.f (k : Nat) (l0 : List Int) (a1 : Int) : Option (Bool) := (slices_Index_int_int.f k l0 a1).bind fun t231 => (some (decide (t231 ≥ 0)))
theorem slices_Contains_int_int.mono : ∀ a0 a1 k, LeO (slices_Contains_int_int.f k a0 a1) (slices_Contains_int_int.f (k + 1) a0 a1) := by
 intro a0 a1 k
 unfold slices_Contains_int_int.f
 repeat' first
   | (with_reducible exact slices_Index_int_int.mono _ _ _)
   | (with_reducible exact LeO.refl _)
   | (with_reducible exact LeO.none _)
   | (with_reducible refine LeO.ite ?_ ?_)
   | (with_reducible refine LeO.bind ?_ (fun _ => ?_))
   | exact slices_Index_int_int.mono _ _ _
   | exact LeO.none _
   | refine LeO.ite ?_ ?_
   | refine LeO.bind ?_ (fun _ => ?_)
set_option maxHeartbeats 64000000 in
set_option maxRecDepth 100000 in
theorem slices_Contains_int_int.calls (k : Nat) (A0 : Option Addr) (c0 : Nat) (l0 : List Int) (a1 : Int) (r : Bool) (w : World) (hr0 : Kd.C (Kd.int .i64) w A0 l0.length l0) (hc0 : l0.length ≤ c0) (h : slices_Contains_int_int.f k l0 a1 = some r) :
  Calls Try.prog 118 #[.slice A0 l0.length c0, .int .i64 a1] w fun e w' => e = .returned (.bool r) ∧ Drawn0 w w' := by
 obtain ⟨HR0, HC0⟩ := zD2 hr0 hc0
 clear hr0 hc0
 have H : ((slices_Index_int_int.f k l0 a1).bind fun t231 => (some (decide (t231 ≥ 0)))) = some r := h
 clear h
 replace H := Option.bind_eq_some_iff.mp H
 obtain ⟨t231, A30, H⟩ := H
 replace H : (some (decide (t231 ≥ 0))) = some r := H
 have A3 := za A30
 clear A30
 obtain rfl := Option.some.inj H
 go_enter Try.func118, Try.ntmps118
 go_wp2_with (first | ((with_reducible refine gate_callee (f := 144) rfl ?_); refine goesL_ (some 7) rfl rfl Try.func144 zG128 rfl #[.slice A0 l0.length c0, .int .i64 a1] rfl zG97 ?_; (with_reducible refine (slices_Index_int_int.calls k _ _ l0 a1 t231 _ ?side1 ?side2 A3.out).mono ?_); (case side1 => exact zH78); (case side2 => exact zH128); rintro e w' ⟨rfl, ⟨nd, rfl⟩⟩; refine ⟨_, rfl, ?_⟩))
 go_ret
 exact zH89

end Go.Proofs.Ytojncbpeeboooaa.X
