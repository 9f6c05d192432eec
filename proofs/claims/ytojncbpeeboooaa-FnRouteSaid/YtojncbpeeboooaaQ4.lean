-- squeezed
-- made by pp.py (wip/tools) out of the translation; Lean checks it
import Derived.Test.YtojncbpeeboooaaQ0
import Derived.Test.YtojncbpeeboooaaQ1
import Derived.Test.YtojncbpeeboooaaQ2
import Derived.Test.YtojncbpeeboooaaQ3
namespace Go.Proofs.Ytojncbpeeboooaa.Q
open Go.RowKit Go.Proofs.YtojncbpeeboooaaW.PrintWords Go.Proofs.YtojncbpeeboooaaW.PrintLast Go.Proofs.YtojncbpeeboooaaW.PrintMore
attribute [local go_sem] max2_int min2_int max_two min_two max_three min_three max_four min_four   -- for this text's walks alone
set_option linter.unusedVariables false
set_option linter.unusedSimpArgs false


/-! ### impl_areFrom_1: function 128 -/
def impl_areFrom_1.f (a0 : Int) (a1_0 : Int) (a2_0 : Int) : Option (Bool) := (impl_within.f a0 a1_0 a2_0).bind fun t252 => (some (!t252))
set_option maxHeartbeats 64000000 in
set_option maxRecDepth 100000 in
theorem impl_areFrom_1.calls (a0 : Int) (gc1_0 : Nat) (a1_0 : Int) (gc2_0 : Nat) (a2_0 : Int) (r : Bool) (w : World) (hk1_0 : w.heap[gc1_0]? = some (.cells #[.int .i64 a1_0] 3 (0, 0))) (hk2_0 : w.heap[gc2_0]? = some (.cells #[.int .i64 a2_0] 3 (0, 0))) (h : impl_areFrom_1.f a0 a1_0 a2_0 = some r) :
  Calls Try.prog 128 #[.int .i64 a0, .pointer (some ⟨gc1_0, 0, none⟩), .pointer (some ⟨gc2_0, 0, none⟩)] w fun e w' => e = .returned (.bool r) ∧ Drawn0 w w' := by
 obtain ⟨BK1, BK2⟩ := zD2 hk1_0 hk2_0
 clear hk1_0 hk2_0
 have H : ((impl_within.f a0 a1_0 a2_0).bind fun t252 => (some (!t252))) = some r := h
 clear h
 replace H := Option.bind_eq_some_iff.mp H
 obtain ⟨t252, A40, H⟩ := H
 replace H : (some (!t252)) = some r := H
 have A4 := za A40
 clear A40
 obtain rfl := Option.some.inj H
 obtain ⟨hcz5_0, hfz5_0⟩ := zB1 BK1.out
 obtain ⟨hcz6_0, hfz6_0⟩ := zB1 BK2.out
 go_enter Try.func128, Try.ntmps128
 go_wp2_with (first | ((with_reducible refine gate_callee (f := 88) rfl ?_); refine goesL_ (some 8) rfl rfl Try.func88 zG125 rfl #[.int .i64 a0, .int .i64 a1_0, .int .i64 a2_0] rfl zG87 ?_; (with_reducible refine (impl_within.calls a0 a1_0 a2_0 t252 _ A4.out).mono ?_); rintro e w' ⟨rfl, ⟨nd, rfl⟩⟩; refine ⟨_, rfl, ?_⟩))
 go_ret
 exact zH74

/-! ### slices_IndexFunc_at_impl_areFrom_1: function 500004 -/
def slices_IndexFunc_at_impl_areFrom_1.l0 : Nat → List Int → Int → Int → Int → Int → Option (Int)
 | 0, _, _, _, _, _ => none
 | k + 1, x0, x7, x8, x29000, x30000 => if x8 < x7 then (if 0 ≤ x8 then (if x8 < (x0.length : Int) then ((impl_areFrom_1.f (rd x0 x8) x29000 x30000).bind fun t254 => (if t254 = true then (some x8) else (slices_IndexFunc_at_impl_areFrom_1.l0 k x0 x7 (wrap64 (x8 + 1)) x29000 x30000))) else (none)) else (none)) else (some (-1))
def slices_IndexFunc_at_impl_areFrom_1.f (k : Nat) (l0 : List Int) (a1_0 : Int) (a1_1 : Int) : Option (Int) := slices_IndexFunc_at_impl_areFrom_1.l0 k l0 (l0.length : Int) 0 a1_0 a1_1
theorem slices_IndexFunc_at_impl_areFrom_1.mono_l : ∀ k, (∀ y0 y1 y2 y3 y4, LeO (slices_IndexFunc_at_impl_areFrom_1.l0 k y0 y1 y2 y3 y4) (slices_IndexFunc_at_impl_areFrom_1.l0 (k + 1) y0 y1 y2 y3 y4))
 | 0 => fun _ _ _ _ _ r h => by simp [slices_IndexFunc_at_impl_areFrom_1.l0] at h
 | k + 1 => by
  have ih0 := slices_IndexFunc_at_impl_areFrom_1.mono_l k
  ·intro y0 y1 y2 y3 y4
   unfold slices_IndexFunc_at_impl_areFrom_1.l0
   repeat' first
   | (with_reducible exact ih0 _ _ _ _ _)
   | (with_reducible exact LeO.refl _)
   | (with_reducible exact LeO.none _)
   | (with_reducible refine LeO.ite ?_ ?_)
   | (with_reducible refine LeO.bind ?_ (fun _ => ?_))
   | exact ih0 _ _ _ _ _
   | exact LeO.none _
   | refine LeO.ite ?_ ?_
   | refine LeO.bind ?_ (fun _ => ?_)
theorem slices_IndexFunc_at_impl_areFrom_1.mono : ∀ a0 a1 a2 k, LeO (slices_IndexFunc_at_impl_areFrom_1.f k a0 a1 a2) (slices_IndexFunc_at_impl_areFrom_1.f (k + 1) a0 a1 a2) := by
 intro a0 a1 a2 k
 have ih0 := slices_IndexFunc_at_impl_areFrom_1.mono_l k
 unfold slices_IndexFunc_at_impl_areFrom_1.f
 repeat' first
   | (with_reducible exact ih0 _ _ _ _ _)
   | (with_reducible exact LeO.refl _)
   | (with_reducible exact LeO.none _)
   | (with_reducible refine LeO.ite ?_ ?_)
   | (with_reducible refine LeO.bind ?_ (fun _ => ?_))
   | exact ih0 _ _ _ _ _
   | exact LeO.none _
   | refine LeO.ite ?_ ?_
   | refine LeO.bind ?_ (fun _ => ?_)
set_option maxHeartbeats 64000000 in
set_option maxRecDepth 100000 in
theorem slices_IndexFunc_at_impl_areFrom_1.calls (k : Nat) (A0 : Option Addr) (c0 : Nat) (l0 : List Int) (gc1_0 : Nat) (a1_0 : Int) (gc1_1 : Nat) (a1_1 : Int) (r : Int) (w : World) (hr0 : Kd.C (Kd.int .i64) w A0 l0.length l0) (hc0 : l0.length ≤ c0) (hk1_0 : w.heap[gc1_0]? = some (.cells #[.int .i64 a1_0] 3 (0, 0))) (hk1_1 : w.heap[gc1_1]? = some (.cells #[.int .i64 a1_1] 3 (0, 0))) (h : slices_IndexFunc_at_impl_areFrom_1.f k l0 a1_0 a1_1 = some r) :
  Calls Try.prog 147 #[.slice A0 l0.length c0, .func (.func 128) #[] #[.pointer (some ⟨gc1_0, 0, none⟩), .pointer (some ⟨gc1_1, 0, none⟩)]] w fun e w' => e = .returned (.int .i64 r) ∧ Below w.heap.size w w' := by
 obtain ⟨HR0, HC0, BK28, BK29, HB⟩ := zD5 hr0 hc0 hk1_0 hk1_1 (Below.refl w.heap.size w)
 clear hr0 hc0 hk1_0 hk1_1
 have H : (slices_IndexFunc_at_impl_areFrom_1.l0 k l0 (l0.length : Int) 0 a1_0 a1_1) = some r := h
 clear h
 have H' := za H
 clear H
 go_enter Try.func147, Try.ntmps147
 go_wp2
 go_loopg [8] k (fun kq v8 w' => ∃ (x8_1 : Int), v8 = .int .i64 x8_1 ∧ Aside0 (slices_IndexFunc_at_impl_areFrom_1.l0 kq l0 (l0.length : Int) x8_1 a1_0 a1_1 = some r) ∧ Aside0 (kq ≤ k) ∧ Aside0 (w'.heap[gc1_0]? = some (.cells #[.int .i64 a1_0] 3 (0, 0))) ∧ Aside0 (w'.heap[gc1_1]? = some (.cells #[.int .i64 a1_1] 3 (0, 0))) ∧ Aside0 (Below w.heap.size w w'))
 case atStart => exact ⟨(0), zG124, H', ⟨Nat.le_refl _⟩, ⟨by (with_reducible repeat (first | refine zc ?_ _ | refine ze ?_ | refine zb ?_ _)); exact BK28.out⟩, ⟨by (with_reducible repeat (first | refine zc ?_ _ | refine ze ?_ | refine zb ?_ _)); exact BK29.out⟩, ⟨zH53⟩⟩
 case round =>
  clear H'
  obtain ⟨x8_1, rfl, HA, HK1, BK28, BK29, HB⟩ := hrel
  cases gk with
  | zero => exact absurd HA.out (by simp [slices_IndexFunc_at_impl_areFrom_1.l0])
  | succ k1 =>
   have H := HA.out
   clear HA
   simp only [slices_IndexFunc_at_impl_areFrom_1.l0] at H
   by_cases c3 : x8_1 < (l0.length : Int)
   rotate_left
   ·rw [if_neg c3] at H
    have c3b0 := decide_eq_false c3
    clear c3
    obtain rfl := Option.some.inj H
    go_wp2
    go_ret
    exact zH24

   rw [if_pos c3] at H
   have c3b0 := decide_eq_true c3
   clear c3
   by_cases c4 : 0 ≤ x8_1
   rotate_left
   ·rw [if_neg c4] at H
    exact absurd H (by simp)
   rw [if_pos c4] at H
   have c4b0 := decide_eq_true c4
   clear c4
   by_cases c5 : x8_1 < (l0.length : Int)
   rotate_left
   ·rw [if_neg c5] at H
    exact absurd H (by simp)
   rw [if_pos c5] at H
   have c5b0 := decide_eq_true c5
   clear c5
   replace H := Option.bind_eq_some_iff.mp H
   obtain ⟨t254, A60, H⟩ := H
   replace H : (if t254 = true then (some x8_1) else (slices_IndexFunc_at_impl_areFrom_1.l0 k1 l0 (l0.length : Int) (wrap64 (x8_1 + 1)) a1_0 a1_1)) = some r := H
   have A6 := za A60
   clear A60
   by_cases c7 : t254 = true
   ·subst c7
    have H1 : (some x8_1) = some r := by rw [if_pos rfl] at H; exact H
    clear H
    have H := H1
    clear H1
    obtain rfl := Option.some.inj H
    have p253 : 0 ≤ (x8_1 : Int) := zO
    have q253 : x8_1 < (l0.length : Int) := zO
    obtain ⟨ad253, e253, hx253_0⟩ := zao HR0.out x8_1 p253 q253
    cases e253
    replace hx253_0 := (HB.out.cell (zx w _ hx253_0)).trans hx253_0
    replace p253 := eq_true p253
    replace q253 := eq_true q253
    go_wp2_with (first | (go_at_call 128; (with_reducible refine (impl_areFrom_1.calls (rd l0 x8_1) gc1_0 a1_0 gc1_1 a1_1 true _ ?side1 ?side2 A6.out).mono ?_); (case side1 => exact zH79); (case side2 => exact zH80); rintro e w' ⟨rfl, ⟨nd, rfl⟩⟩))
    go_ret
    exact zH24
   replace c7 := Bool.eq_false_iff.mpr c7
   subst c7
   have H1 : (slices_IndexFunc_at_impl_areFrom_1.l0 k1 l0 (l0.length : Int) (wrap64 (x8_1 + 1)) a1_0 a1_1) = some r := by rw [if_neg (show ¬ (false = true) by decide)] at H; exact H
   clear H
   have H := H1
   clear H1
   have H' := za H
   clear H
   have p253 : 0 ≤ (x8_1 : Int) := zO
   have q253 : x8_1 < (l0.length : Int) := zO
   obtain ⟨ad253, e253, hx253_0⟩ := zao HR0.out x8_1 p253 q253
   cases e253
   replace hx253_0 := (HB.out.cell (zx w _ hx253_0)).trans hx253_0
   replace p253 := eq_true p253
   replace q253 := eq_true q253
   go_wp2_with (first | (go_at_call 128; (with_reducible refine (impl_areFrom_1.calls (rd l0 x8_1) gc1_0 a1_0 gc1_1 a1_1 false _ ?side1 ?side2 A6.out).mono ?_); (case side1 => exact zH79); (case side2 => exact zH80); rintro e w' ⟨rfl, ⟨nd, rfl⟩⟩))
   go_roundg k1
   case measure => have := HK1.out; omega
   case rel => exact ⟨(wrap64 (x8_1 + 1)), zG124, H', ⟨zH106⟩, ⟨by (with_reducible repeat (first | refine zc ?_ _ | refine ze ?_ | refine zb ?_ _)); exact BK28.out⟩, ⟨by (with_reducible repeat (first | refine zc ?_ _ | refine ze ?_ | refine zb ?_ _)); exact BK29.out⟩, ⟨zH53⟩⟩
/-! ### slices_ContainsFunc_at_impl_areFrom_1: function 500003 -/
def slices_ContainsFunc_at_impl_areFrom_1.f (k : Nat) (l0 : List Int) (a1_0 : Int) (a1_1 : Int) : Option (Bool) := (slices_IndexFunc_at_impl_areFrom_1.f k l0 a1_0 a1_1).bind fun t255 => (some (decide (t255 ≥ 0)))
theorem slices_ContainsFunc_at_impl_areFrom_1.mono : ∀ a0 a1 a2 k, LeO (slices_ContainsFunc_at_impl_areFrom_1.f k a0 a1 a2) (slices_ContainsFunc_at_impl_areFrom_1.f (k + 1) a0 a1 a2) := by
 intro a0 a1 a2 k
 unfold slices_ContainsFunc_at_impl_areFrom_1.f
 repeat' first
   | (with_reducible exact slices_IndexFunc_at_impl_areFrom_1.mono _ _ _ _)
   | (with_reducible exact LeO.refl _)
   | (with_reducible exact LeO.none _)
   | (with_reducible refine LeO.ite ?_ ?_)
   | (with_reducible refine LeO.bind ?_ (fun _ => ?_))
   | exact slices_IndexFunc_at_impl_areFrom_1.mono _ _ _ _
   | exact LeO.none _
   | refine LeO.ite ?_ ?_
   | refine LeO.bind ?_ (fun _ => ?_)
set_option maxHeartbeats 64000000 in
set_option maxRecDepth 100000 in
theorem slices_ContainsFunc_at_impl_areFrom_1.calls (k : Nat) (A0 : Option Addr) (c0 : Nat) (l0 : List Int) (gc1_0 : Nat) (a1_0 : Int) (gc1_1 : Nat) (a1_1 : Int) (r : Bool) (w : World) (hr0 : Kd.C (Kd.int .i64) w A0 l0.length l0) (hc0 : l0.length ≤ c0) (hk1_0 : w.heap[gc1_0]? = some (.cells #[.int .i64 a1_0] 3 (0, 0))) (hk1_1 : w.heap[gc1_1]? = some (.cells #[.int .i64 a1_1] 3 (0, 0))) (h : slices_ContainsFunc_at_impl_areFrom_1.f k l0 a1_0 a1_1 = some r) :
  Calls Try.prog 127 #[.slice A0 l0.length c0, .func (.func 128) #[] #[.pointer (some ⟨gc1_0, 0, none⟩), .pointer (some ⟨gc1_1, 0, none⟩)]] w fun e w' => e = .returned (.bool r) ∧ Below w.heap.size w w' := by
 obtain ⟨HR0, HC0, BK28, BK29, HB⟩ := zD5 hr0 hc0 hk1_0 hk1_1 (Below.refl w.heap.size w)
 clear hr0 hc0 hk1_0 hk1_1
 have H : ((slices_IndexFunc_at_impl_areFrom_1.f k l0 a1_0 a1_1).bind fun t255 => (some (decide (t255 ≥ 0)))) = some r := h
 clear h
 replace H := Option.bind_eq_some_iff.mp H
 obtain ⟨t255, A30, H⟩ := H
 replace H : (some (decide (t255 ≥ 0))) = some r := H
 have A3 := za A30
 clear A30
 obtain rfl := Option.some.inj H
 go_enter Try.func127, Try.ntmps127
 go_wp2_with (first | ((with_reducible refine gate_callee (f := 147) rfl ?_); refine goesL_ (some 7) rfl rfl Try.func147 zG125 rfl #[.slice A0 l0.length c0, .func (.func 128) #[] #[.pointer (some ⟨gc1_0, 0, none⟩), .pointer (some ⟨gc1_1, 0, none⟩)]] rfl zG87 ?_; (with_reducible refine (slices_IndexFunc_at_impl_areFrom_1.calls k _ _ l0 gc1_0 a1_0 gc1_1 a1_1 t255 _ ?side1 ?side2 ?side3 ?side4 A3.out).mono ?_); (case side1 => exact zH68); (case side2 => exact zH110); (case side3 => exact zH79); (case side4 => exact zH80); rintro e w4 ⟨rfl, hb⟩; refine ⟨_, rfl, ?_⟩; have n_ := zA_ (za (zs (g := gc1_0) (o := .cells #[.int .i64 a1_0] 3 (0, 0)) (by (with_reducible repeat (first | refine zc ?_ _ | refine ze ?_ | refine zb ?_ _)); exact BK28.out) hb)) (zA_ (za (zs (g := gc1_1) (o := .cells #[.int .i64 a1_1] 3 (0, 0)) (by (with_reducible repeat (first | refine zc ?_ _ | refine ze ?_ | refine zb ?_ _)); exact BK29.out) hb)) (za (zv (by repeat (first | (with_reducible first | exact HB.out | apply zm | apply zj | apply zk | refine zi ?_ GE28.out | refine zi ?_ GE29.out) | exact HB.out)) hb))); clear BK28 BK29 HB; obtain ⟨BK28, BK29, HB⟩ := n_; (try clear hb)))
 go_ret
 exact zH24

/-! ### impl_areFrom: function 85 -/
def impl_areFrom.f (k : Nat) (l0 : List Int) (a1 : Int) (a2 : Int) : Option (Bool) := (slices_ContainsFunc_at_impl_areFrom_1.f k l0 a1 a2).bind fun t258 => (some (!t258))
theorem impl_areFrom.mono : ∀ a0 a1 a2 k, LeO (impl_areFrom.f k a0 a1 a2) (impl_areFrom.f (k + 1) a0 a1 a2) := by
 intro a0 a1 a2 k
 unfold impl_areFrom.f
 repeat' first
   | (with_reducible exact slices_ContainsFunc_at_impl_areFrom_1.mono _ _ _ _)
   | (with_reducible exact LeO.refl _)
   | (with_reducible exact LeO.none _)
   | (with_reducible refine LeO.ite ?_ ?_)
   | (with_reducible refine LeO.bind ?_ (fun _ => ?_))
   | exact slices_ContainsFunc_at_impl_areFrom_1.mono _ _ _ _
   | exact LeO.none _
   | refine LeO.ite ?_ ?_
   | refine LeO.bind ?_ (fun _ => ?_)
set_option maxHeartbeats 64000000 in
set_option maxRecDepth 100000 in
theorem impl_areFrom.calls (k : Nat) (A0 : Option Addr) (c0 : Nat) (l0 : List Int) (a1 : Int) (a2 : Int) (r : Bool) (w : World) (hr0 : Kd.C (Kd.int .i64) w A0 l0.length l0) (hc0 : l0.length ≤ c0) (h : impl_areFrom.f k l0 a1 a2 = some r) :
  Calls Try.prog 85 #[.slice A0 l0.length c0, .int .i64 a1, .int .i64 a2] w fun e w' => e = .returned (.bool r) ∧ Below w.heap.size w w' := by
 have hu3 := Try.underlying3
 obtain ⟨HR0, HC0, HB⟩ := zD3 hr0 hc0 (Below.refl w.heap.size w)
 clear hr0 hc0
 have H : ((slices_ContainsFunc_at_impl_areFrom_1.f k l0 a1 a2).bind fun t258 => (some (!t258))) = some r := h
 clear h
 replace H := Option.bind_eq_some_iff.mp H
 obtain ⟨t258, A40, H⟩ := H
 replace H : (some (!t258)) = some r := H
 have A4 := za A40
 clear A40
 obtain rfl := Option.some.inj H
 go_enter Try.func85, Try.ntmps85
 go_wp2_with (first | ((with_reducible refine gate_dst (N := 4) rfl ?_); refine box_event ?hg (N := 4) ?hd (cs := #[.int .i64 a1]) (t := 3) ?hr ?_; (case hd => rfl); (case hg => rfl); (case hr => exact zH103); intro gb256 hg w5 hbox hb; have n_ := zA_ (za (zv zG95 hb)) (zA_ (za (hbox)) (zA_ (zN1 w.heap.size hg (zt zG95)) (zN1 w.heap.size hg (zt zG95)))); clear HB; obtain ⟨HB, BK256, GW256, GE256⟩ := n_; clear hb hbox hg) | ((with_reducible refine gate_dst (N := 5) rfl ?_); refine box_event ?hg (N := 5) ?hd (cs := #[.int .i64 a2]) (t := 3) ?hr ?_; (case hd => rfl); (case hg => rfl); (case hr => exact zH103); intro gb257 hg w6 hbox hb; have n_ := zA_ (za (zs (g := gb256) (o := .cells #[.int .i64 a1] 3 (0, 0)) zK189 hb)) (zA_ (za (zv zK179 hb)) (zA_ (za (hbox)) (zA_ (zN1 w.heap.size hg (zt zK179)) (zA_ (zN1 w.heap.size hg (zt zK179)) (zN2 hg (zac (g := gb256) (o := .cells #[.int .i64 a1] 3 (0, 0)) zK189)))))); clear BK256 HB; obtain ⟨BK256, HB, BK257, GW257, GE257, NB256_257, NB257_256⟩ := n_; clear hb hbox hg) | ((with_reducible refine gate_callee (f := 127) rfl ?_); refine goesL_ (some 9) rfl rfl Try.func127 zG125 rfl #[.slice A0 l0.length c0, .func (.func 128) #[] #[.pointer (some ⟨gb256, 0, none⟩), .pointer (some ⟨gb257, 0, none⟩)]] rfl zG87 ?_; (with_reducible refine (slices_ContainsFunc_at_impl_areFrom_1.calls k _ _ l0 gb256 a1 gb257 a2 t258 _ ?side1 ?side2 ?side3 ?side4 A4.out).mono ?_); (case side1 => exact zH58); (case side2 => exact zH110); (case side3 => exact zK189); (case side4 => exact (by (with_reducible repeat (first | refine zc ?_ _ | refine ze ?_ | refine zb ?_ _)); exact BK257.out)); rintro e w7 ⟨rfl, hb⟩; refine ⟨_, rfl, ?_⟩; have n_ := zA_ (za (zs (g := gb256) (o := .cells #[.int .i64 a1] 3 (0, 0)) zK189 hb)) (zA_ (za (zs (g := gb257) (o := .cells #[.int .i64 a2] 3 (0, 0)) (by (with_reducible repeat (first | refine zc ?_ _ | refine ze ?_ | refine zb ?_ _)); exact BK257.out) hb)) (za (zv (by repeat (first | (with_reducible first | exact HB.out | apply zm | apply zj | apply zk | refine zi ?_ GE256.out | refine zi ?_ GE257.out) | exact HB.out)) hb))); clear BK256 BK257 HB; obtain ⟨BK256, BK257, HB⟩ := n_; (try clear hb)))
 go_ret
 exact ⟨zH92, by repeat (first | (with_reducible first | exact HB.out | apply zm | apply zj | apply zk | refine zi ?_ GE256.out | refine zi ?_ GE257.out) | exact HB.out)⟩

/-! ### impl_hasTwice_int: function 119 -/
def impl_hasTwice_int.l0 : Nat → List Int → List Int → Int → Int → Option (Bool)
 | 0, _, _, _, _ => none
 | k + 1, x0, x5, x6, x7 => if x7 < x6 then (if 0 ≤ x7 then (if x7 < (x5.length : Int) then (if x7 ≤ (x0.length : Int) then ((slices_Contains_int_int.f k (x0.take (x7 : Int).toNat) (rd x5 x7)).bind fun t261 => (if t261 = true then (some true) else (impl_hasTwice_int.l0 k x0 x5 x6 (wrap64 (x7 + 1))))) else (none)) else (none)) else (none)) else (some false)
def impl_hasTwice_int.f (k : Nat) (l0 : List Int) : Option (Bool) := impl_hasTwice_int.l0 k l0 l0 (l0.length : Int) 0
theorem impl_hasTwice_int.mono_l : ∀ k, (∀ y0 y1 y2 y3, LeO (impl_hasTwice_int.l0 k y0 y1 y2 y3) (impl_hasTwice_int.l0 (k + 1) y0 y1 y2 y3))
 | 0 => fun _ _ _ _ r h => by simp [impl_hasTwice_int.l0] at h
 | k + 1 => by
  have ih0 := impl_hasTwice_int.mono_l k
  ·intro y0 y1 y2 y3
   unfold impl_hasTwice_int.l0
   repeat' first
   | (with_reducible exact ih0 _ _ _ _)
   | (with_reducible exact slices_Contains_int_int.mono _ _ _)
   | (with_reducible exact LeO.refl _)
   | (with_reducible exact LeO.none _)
   | (with_reducible refine LeO.ite ?_ ?_)
   | (with_reducible refine LeO.bind ?_ (fun _ => ?_))
   | exact ih0 _ _ _ _
   | exact slices_Contains_int_int.mono _ _ _
   | exact LeO.none _
   | refine LeO.ite ?_ ?_
   | refine LeO.bind ?_ (fun _ => ?_)
theorem impl_hasTwice_int.mono : ∀ a0 k, LeO (impl_hasTwice_int.f k a0) (impl_hasTwice_int.f (k + 1) a0) := by
 intro a0 k
 have ih0 := impl_hasTwice_int.mono_l k
 unfold impl_hasTwice_int.f
 repeat' first
   | (with_reducible exact ih0 _ _ _ _)
   | (with_reducible exact slices_Contains_int_int.mono _ _ _)
   | (with_reducible exact LeO.refl _)
   | (with_reducible exact LeO.none _)
   | (with_reducible refine LeO.ite ?_ ?_)
   | (with_reducible refine LeO.bind ?_ (fun _ => ?_))
   | exact ih0 _ _ _ _
   | exact slices_Contains_int_int.mono _ _ _
   | exact LeO.none _
   | refine LeO.ite ?_ ?_
   | refine LeO.bind ?_ (fun _ => ?_)
set_option maxHeartbeats 64000000 in
set_option maxRecDepth 100000 in
theorem impl_hasTwice_int.calls (k : Nat) (A0 : Option Addr) (c0 : Nat) (l0 : List Int) (r : Bool) (w : World) (hr0 : Kd.C (Kd.int .i64) w A0 l0.length l0) (hc0 : l0.length ≤ c0) (h : impl_hasTwice_int.f k l0 = some r) :
  Calls Try.prog 119 #[.slice A0 l0.length c0] w fun e w' => e = .returned (.bool r) ∧ Drawn0 w w' := by
 obtain ⟨HR0, HC0⟩ := zD2 hr0 hc0
 clear hr0 hc0
 have H : (impl_hasTwice_int.l0 k l0 l0 (l0.length : Int) 0) = some r := h
 clear h
 have H' := za H
 clear H
 go_enter Try.func119, Try.ntmps119
 go_wp2
 go_loopg [7] k (fun kq v7 w' => ∃ (x7_1 : Int), v7 = .int .i64 x7_1 ∧ Aside0 (impl_hasTwice_int.l0 kq l0 l0 (l0.length : Int) x7_1 = some r) ∧ Aside0 (kq ≤ k) ∧ Drawn0 w w')
 case atStart => exact ⟨(0), zG124, H', ⟨Nat.le_refl _⟩, zH99⟩
 case round =>
  clear H'
  obtain ⟨x7_1, rfl, HA, HK1, ⟨m1, rfl⟩⟩ := hrel
  cases gk with
  | zero => exact absurd HA.out (by simp [impl_hasTwice_int.l0])
  | succ k1 =>
   have H := HA.out
   clear HA
   simp only [impl_hasTwice_int.l0] at H
   by_cases c2 : x7_1 < (l0.length : Int)
   rotate_left
   ·rw [if_neg c2] at H
    have c2b0 := decide_eq_false c2
    clear c2
    obtain rfl := Option.some.inj H
    go_wp2
    go_ret
    exact zH74

   rw [if_pos c2] at H
   have c2b0 := decide_eq_true c2
   clear c2
   by_cases c3 : 0 ≤ x7_1
   rotate_left
   ·rw [if_neg c3] at H
    exact absurd H (by simp)
   rw [if_pos c3] at H
   have c3b0 := decide_eq_true c3
   clear c3
   by_cases c4 : x7_1 < (l0.length : Int)
   rotate_left
   ·rw [if_neg c4] at H
    exact absurd H (by simp)
   rw [if_pos c4] at H
   have c4b0 := decide_eq_true c4
   clear c4
   have c5b0 := eq_true (zO : 0 ≤ x7_1)
   by_cases c6 : x7_1 ≤ (l0.length : Int)
   rotate_left
   ·rw [if_neg c6] at H
    exact absurd H (by simp)
   rw [if_pos c6] at H
   have c6b0 := eq_true c6
   have c6b1 := decide_eq_true c6
   clear c6
   replace H := Option.bind_eq_some_iff.mp H
   obtain ⟨t261, A70, H⟩ := H
   replace H : (if t261 = true then (some true) else (impl_hasTwice_int.l0 k1 l0 l0 (l0.length : Int) (wrap64 (x7_1 + 1)))) = some r := H
   have A7 := za A70
   clear A70
   by_cases c8 : t261 = true
   ·subst c8
    have H1 : (some true) = some r := by rw [if_pos rfl] at H; exact H
    clear H
    have H := H1
    clear H1
    obtain rfl := Option.some.inj H
    have p259 : 0 ≤ (x7_1 : Int) := zO
    have q259 : x7_1 < (l0.length : Int) := zO
    obtain ⟨ad259, e259, hx259_0⟩ := zao HR0.out x7_1 p259 q259
    cases e259
    replace p259 := eq_true p259
    replace q259 := eq_true q259
    obtain ⟨i09, hi09, _, hsz9, _⟩ := info_parts info3
    obtain ⟨hcut9, hA9, hC9⟩ := print_take_of (P := Try.prog) (Value.int .i64) 0 24 3 .i64 Try.underlying24 hi09 hsz9 (some ad259) c0 l0 x7_1 zO zO HC0.out
    obtain ⟨HR260, HC260⟩ := zD2 (Kd.C_of_reads (h1 := fun _ => rfl) (hA9 _ (Kd.reads_of_C HR0.out))) hC9
    clear hA9 hC9 hi09 hsz9
    go_wp2_with (first | ((with_reducible refine gate_callee (f := 118) rfl ?_); refine goesL_ (some 16) rfl rfl Try.func118 zG125 rfl #[.slice (some ad259) (l0.take (x7_1 : Int).toNat).length c0, .int .i64 (rd l0 x7_1)] rfl zK152 ?_; (with_reducible refine (slices_Contains_int_int.calls k1 _ _ (l0.take (x7_1 : Int).toNat) (rd l0 x7_1) true _ ?side1 ?side2 A7.out).mono ?_); (case side1 => exact zH67); (case side2 => exact HC260.out); rintro e w' ⟨rfl, ⟨nd, rfl⟩⟩; refine ⟨_, rfl, ?_⟩))
    go_ret
    exact zH74
   replace c8 := Bool.eq_false_iff.mpr c8
   subst c8
   have H1 : (impl_hasTwice_int.l0 k1 l0 l0 (l0.length : Int) (wrap64 (x7_1 + 1))) = some r := by rw [if_neg (show ¬ (false = true) by decide)] at H; exact H
   clear H
   have H := H1
   clear H1
   have H' := za H
   clear H
   have p259 : 0 ≤ (x7_1 : Int) := zO
   have q259 : x7_1 < (l0.length : Int) := zO
   obtain ⟨ad259, e259, hx259_0⟩ := zao HR0.out x7_1 p259 q259
   cases e259
   replace p259 := eq_true p259
   replace q259 := eq_true q259
   obtain ⟨i010, hi010, _, hsz10, _⟩ := info_parts info3
   obtain ⟨hcut10, hA10, hC10⟩ := print_take_of (P := Try.prog) (Value.int .i64) 0 24 3 .i64 Try.underlying24 hi010 hsz10 (some ad259) c0 l0 x7_1 zO zO HC0.out
   obtain ⟨HR260, HC260⟩ := zD2 (Kd.C_of_reads (h1 := fun _ => rfl) (hA10 _ (Kd.reads_of_C HR0.out))) hC10
   clear hA10 hC10 hi010 hsz10
   go_wp2_with (first | ((with_reducible refine gate_callee (f := 118) rfl ?_); refine goesL_ (some 16) rfl rfl Try.func118 zG125 rfl #[.slice (some ad259) (l0.take (x7_1 : Int).toNat).length c0, .int .i64 (rd l0 x7_1)] rfl zK152 ?_; (with_reducible refine (slices_Contains_int_int.calls k1 _ _ (l0.take (x7_1 : Int).toNat) (rd l0 x7_1) false _ ?side1 ?side2 A7.out).mono ?_); (case side1 => exact zH67); (case side2 => exact HC260.out); rintro e w' ⟨rfl, ⟨nd, rfl⟩⟩; refine ⟨_, rfl, ?_⟩))
   go_roundg k1
   case measure => have := HK1.out; omega
   case rel => exact ⟨(wrap64 (x7_1 + 1)), zG124, H', ⟨zH106⟩, zH99⟩
/-! ### impl_isOrder: function 64 -/
def impl_isOrder.f (k : Nat) (l0 : List Int) (a1 : Int) : Option (Bool) := if (l0.length : Int) = a1 then ((impl_areFrom.f k l0 0 (wrap64 (a1 - 1))).bind fun t262 => (if t262 = true then ((impl_hasTwice_int.f k l0).bind fun t263 => (some (!t263))) else (some false))) else (some false)
theorem impl_isOrder.mono : ∀ a0 a1 k, LeO (impl_isOrder.f k a0 a1) (impl_isOrder.f (k + 1) a0 a1) := by
 intro a0 a1 k
 unfold impl_isOrder.f
 repeat' first
   | (with_reducible exact impl_areFrom.mono _ _ _ _)
   | (with_reducible exact impl_hasTwice_int.mono _ _)
   | (with_reducible exact LeO.refl _)
   | (with_reducible exact LeO.none _)
   | (with_reducible refine LeO.ite ?_ ?_)
   | (with_reducible refine LeO.bind ?_ (fun _ => ?_))
   | exact impl_areFrom.mono _ _ _ _
   | exact impl_hasTwice_int.mono _ _
   | exact LeO.none _
   | refine LeO.ite ?_ ?_
   | refine LeO.bind ?_ (fun _ => ?_)
set_option maxHeartbeats 64000000 in
set_option maxRecDepth 100000 in
theorem impl_isOrder.calls (k : Nat) (A0 : Option Addr) (c0 : Nat) (l0 : List Int) (a1 : Int) (r : Bool) (w : World) (hr0 : Kd.C (Kd.int .i64) w A0 l0.length l0) (hc0 : l0.length ≤ c0) (h : impl_isOrder.f k l0 a1 = some r) :
  Calls Try.prog 64 #[.slice A0 l0.length c0, .int .i64 a1] w fun e w' => e = .returned (.bool r) ∧ Below w.heap.size w w' := by
 obtain ⟨HR0, HC0, HB⟩ := zD3 hr0 hc0 (Below.refl w.heap.size w)
 clear hr0 hc0
 have H : (if (l0.length : Int) = a1 then ((impl_areFrom.f k l0 0 (wrap64 (a1 - 1))).bind fun t262 => (if t262 = true then ((impl_hasTwice_int.f k l0).bind fun t263 => (some (!t263))) else (some false))) else (some false)) = some r := h
 clear h
 by_cases c3 : (l0.length : Int) = a1
 rotate_left
 ·rw [if_neg c3] at H
  have c3b0 : ((l0.length : Int) == a1) = false := beq_eq_false_iff_ne.mpr c3
  have c3b1 : ((l0.length : Int) != a1) = true := bne_iff_ne.mpr c3
  obtain rfl := Option.some.inj H
  go_enter Try.func64, Try.ntmps64
  go_wp2
  go_ret
  exact zH36

 rw [if_pos c3] at H
 have c3b0 : ((l0.length : Int) == a1) = true := beq_iff_eq.mpr c3
 have c3b1 : ((l0.length : Int) != a1) = false := bne_eq_false_iff_eq.mpr c3
 clear c3
 replace H := Option.bind_eq_some_iff.mp H
 obtain ⟨t262, A40, H⟩ := H
 replace H : (if t262 = true then ((impl_hasTwice_int.f k l0).bind fun t263 => (some (!t263))) else (some false)) = some r := H
 have A4 := za A40
 clear A40
 by_cases c5 : t262 = true
 rotate_left
 ·replace c5 := Bool.eq_false_iff.mpr c5
  subst c5
  have H1 : (some false) = some r := by rw [if_neg (show ¬ (false = true) by decide)] at H; exact H
  clear H
  have H := H1
  clear H1
  obtain rfl := Option.some.inj H
  go_enter Try.func64, Try.ntmps64
  go_wp2_with (first | (go_at_call 85; (with_reducible refine (impl_areFrom.calls k _ _ l0 0 (wrap64 (a1 - 1)) false _ ?side1 ?side2 A4.out).mono ?_); (case side1 => exact zH68); (case side2 => exact zH110); rintro e w8 ⟨rfl, hb⟩; replace HB := za (zv zG95 hb); (try clear hb)))
  go_ret
  exact zH36
 subst c5
 have H1 : ((impl_hasTwice_int.f k l0).bind fun t263 => (some (!t263))) = some r := by rw [if_pos rfl] at H; exact H
 clear H
 have H := H1
 clear H1
 replace H := Option.bind_eq_some_iff.mp H
 obtain ⟨t263, A60, H⟩ := H
 replace H : (some (!t263)) = some r := H
 have A6 := za A60
 clear A60
 obtain rfl := Option.some.inj H
 go_enter Try.func64, Try.ntmps64
 go_wp2_with (first | (go_at_call 85; (with_reducible refine (impl_areFrom.calls k _ _ l0 0 (wrap64 (a1 - 1)) true _ ?side1 ?side2 A4.out).mono ?_); (case side1 => exact zH68); (case side2 => exact zH110); rintro e w7 ⟨rfl, hb⟩; replace HB := za (zv zG95 hb); (try clear hb)) | (go_at_call 119; (with_reducible refine (impl_hasTwice_int.calls k _ _ l0 t263 _ ?side1 ?side2 A6.out).mono ?_); (case side1 => exact zH58); (case side2 => exact zH110); rintro e w' ⟨rfl, ⟨nd, rfl⟩⟩))
 go_ret
 exact zH36
/-! ### impl_RouteOf: function 11 -/
def impl_RouteOf.f (k : Nat) (l0 : List (S37)) (a1 : Int) (l2 : List Int) : Option (List Int × List Int × Int × Int × Int) := (impl_isList_int.f l2).bind fun t265 => (if t265 = true then ((impl_stopsCode.f k l0 a1).bind fun t266 => (if t266 = 0 then ((impl_isOrder.f k l2 (l0.length : Int)).bind fun t267 => (if t267 = true then ((impl_routeOf.f k l0 a1 l2).bind fun bt268 => (if bt268.2.2.2.2 = true then (some (bt268.1, bt268.2.1, bt268.2.2.1, bt268.2.2.2.1, 0)) else (some (([] : List Int), ([] : List Int), 0, 0, 17)))) else (some (([] : List Int), ([] : List Int), 0, 0, 3)))) else (some (([] : List Int), ([] : List Int), 0, 0, t266)))) else (some (([] : List Int), ([] : List Int), 0, 0, 2)))
theorem impl_RouteOf.mono : ∀ a0 a1 a2 k, LeO (impl_RouteOf.f k a0 a1 a2) (impl_RouteOf.f (k + 1) a0 a1 a2) := by
 intro a0 a1 a2 k
 unfold impl_RouteOf.f
 repeat' first
   | (with_reducible exact impl_isOrder.mono _ _ _)
   | (with_reducible exact impl_routeOf.mono _ _ _ _)
   | (with_reducible exact impl_stopsCode.mono _ _ _)
   | (with_reducible exact LeO.refl _)
   | (with_reducible exact LeO.none _)
   | (with_reducible refine LeO.ite ?_ ?_)
   | (with_reducible refine LeO.bind ?_ (fun _ => ?_))
   | exact impl_isOrder.mono _ _ _
   | exact impl_routeOf.mono _ _ _ _
   | exact impl_stopsCode.mono _ _ _
   | exact LeO.none _
   | refine LeO.ite ?_ ?_
   | refine LeO.bind ?_ (fun _ => ?_)
set_option maxHeartbeats 64000000 in
set_option maxRecDepth 100000 in
theorem impl_RouteOf.calls (k : Nat) (A0 : Option Addr) (c0 : Nat) (l0 : List (S37)) (a1 : Int) (A2 : Option Addr) (c2 : Nat) (l2 : List Int) (r1 : List Int) (r2 : List Int) (r3 : Int) (r4 : Int) (r5 : Int) (w : World) (hr0 : Kd.C k37 w A0 l0.length l0) (hc0 : l0.length ≤ c0) (hr2 : Kd.C (Kd.int .i64) w A2 l2.length l2) (hc2 : l2.length ≤ c2) (h : impl_RouteOf.f k l0 a1 l2 = some (r1, r2, r3, r4, r5)) :
  Calls Try.prog 11 #[.slice A0 l0.length c0, .int .i64 a1, .slice A2 l2.length c2] w fun e w' => ∃ v0_ v1_ : Value, e = .returned (.tuple #[.agg #[v0_, v1_, .int .i64 r3, .int .i64 r4], .int .i64 r5]) ∧ Kd.R (Kd.int .i64) 3 w' w.heap.size (fun k_ => some k_ ≠ (v1_ : Value).ownBlock) v0_ r1 ∧ Kd.R (Kd.int .i64) 3 w' w.heap.size (fun k_ => some k_ ≠ (v0_ : Value).ownBlock) v1_ r2 ∧ Below w.heap.size w w' := by
 have hu28 := Try.underlying28
 obtain ⟨HR0, HC0, HR2, HC2, HB⟩ := zD5 hr0 hc0 hr2 hc2 (Below.refl w.heap.size w)
 clear hr0 hc0 hr2 hc2
 have H : ((impl_isList_int.f l2).bind fun t265 => (if t265 = true then ((impl_stopsCode.f k l0 a1).bind fun t266 => (if t266 = 0 then ((impl_isOrder.f k l2 (l0.length : Int)).bind fun t267 => (if t267 = true then ((impl_routeOf.f k l0 a1 l2).bind fun bt268 => (if bt268.2.2.2.2 = true then (some (bt268.1, bt268.2.1, bt268.2.2.1, bt268.2.2.2.1, 0)) else (some (([] : List Int), ([] : List Int), 0, 0, 17)))) else (some (([] : List Int), ([] : List Int), 0, 0, 3)))) else (some (([] : List Int), ([] : List Int), 0, 0, t266)))) else (some (([] : List Int), ([] : List Int), 0, 0, 2)))) = some (r1, r2, r3, r4, r5) := h
 clear h
 replace H := Option.bind_eq_some_iff.mp H
 obtain ⟨t265, A40, H⟩ := H
 replace H : (if t265 = true then ((impl_stopsCode.f k l0 a1).bind fun t266 => (if t266 = 0 then ((impl_isOrder.f k l2 (l0.length : Int)).bind fun t267 => (if t267 = true then ((impl_routeOf.f k l0 a1 l2).bind fun bt268 => (if bt268.2.2.2.2 = true then (some (bt268.1, bt268.2.1, bt268.2.2.1, bt268.2.2.2.1, 0)) else (some (([] : List Int), ([] : List Int), 0, 0, 17)))) else (some (([] : List Int), ([] : List Int), 0, 0, 3)))) else (some (([] : List Int), ([] : List Int), 0, 0, t266)))) else (some (([] : List Int), ([] : List Int), 0, 0, 2))) = some (r1, r2, r3, r4, r5) := H
 have A4 := za A40
 clear A40
 by_cases c5 : t265 = true
 rotate_left
 ·replace c5 := Bool.eq_false_iff.mpr c5
  subst c5
  have H1 : (some (([] : List Int), ([] : List Int), 0, 0, 2)) = some (r1, r2, r3, r4, r5) := by rw [if_neg (show ¬ (false = true) by decide)] at H; exact H
  clear H
  have H := H1
  clear H1
  simp only [Option.some.injEq, Prod.mk.injEq] at H
  obtain ⟨rfl, rfl, rfl, rfl, rfl⟩ := H
  go_enter Try.func11, Try.ntmps11
  go_wp2_with (first | ((with_reducible refine gate_dst (N := 6) rfl ?_); refine box_event ?hg (N := 6) ?hd (cs := #[.slice none 0 0, .slice none 0 0, .int .i64 0, .int .i64 0]) (t := 28) ?hr ?_; (case hd => rfl); (case hg => rfl); (case hr => exact zH103); intro gb264 hg w43 hbox hb; have n_ := zA_ (za (zv zG95 hb)) (zA_ (za (hbox)) (zA_ (zN1 w.heap.size hg (zt zG95)) (zN1 w.heap.size hg (zt zG95)))); clear HB; obtain ⟨HB, BK264, GW264, GE264⟩ := n_; clear hb hbox hg) | ((with_reducible refine gate_callee (f := 63) rfl ?_); refine goesL_ (some 12) rfl rfl Try.func63 zG125 rfl #[.slice A2 l2.length c2] rfl zG87 ?_; (with_reducible refine (impl_isList_int.calls _ _ l2 false _ ?side1 ?side2 A4.out).mono ?_); (case side1 => exact zH57); (case side2 => exact HC2.out); rintro e w' ⟨rfl, ⟨nd, rfl⟩⟩; refine ⟨_, rfl, ?_⟩; (try (rw [drewN_self w43]; generalize hq_ : World.drewN w43 _ = w43; have n0_ : Aside0 (w43.heap[gb264]? = some (.cells #[.slice none 0 0, .slice none 0 0, .int .i64 0, .int .i64 0] 28 (0, 0))) := ⟨by rw [← hq_]; exact zG101⟩; have n1_ : Aside0 (Below w.heap.size w w43) := ⟨by rw [← hq_]; exact zG92⟩; clear BK264 HB hq_; have BK264 := n0_; have HB := n1_; clear n0_ n1_)); (try have hcu44_0 : w43.cell? ⟨gb264, 0, none⟩ = some (.slice none 0 0) := (zl BK264.out 0).trans rfl); (try have hcu44_1 : w43.cell? ⟨gb264, 1, none⟩ = some (.slice none 0 0) := (zl BK264.out 1).trans rfl); (try have hcu44_2 : w43.cell? ⟨gb264, 2, none⟩ = some (.int .i64 0) := (zl BK264.out 2).trans rfl); (try have hcu44_3 : w43.cell? ⟨gb264, 3, none⟩ = some (.int .i64 0) := (zl BK264.out 3).trans rfl); (try have hfcu44_0 := zn BK264.out 0); (try have hfcu44_1 := zn BK264.out 1); (try have hfcu44_2 := zn BK264.out 2); (try have hfcu44_3 := zn BK264.out 3); obtain ⟨hcz45_0, hcz45_1, hcz45_2, hcz45_3, hfz45_0, hfz45_1, hfz45_2, hfz45_3⟩ := zB4 BK264.out))
  refine bodyPost_ret (results_ct rfl _ _ gb264 28 #[.slice none 0 0, .slice none 0 0, .int .i64 0, .int .i64 0] (0, 0) _ rfl zK119 Try.underlying28 rfl zG125) rfl ?_
  exact zH11

 subst c5
 have H1 : ((impl_stopsCode.f k l0 a1).bind fun t266 => (if t266 = 0 then ((impl_isOrder.f k l2 (l0.length : Int)).bind fun t267 => (if t267 = true then ((impl_routeOf.f k l0 a1 l2).bind fun bt268 => (if bt268.2.2.2.2 = true then (some (bt268.1, bt268.2.1, bt268.2.2.1, bt268.2.2.2.1, 0)) else (some (([] : List Int), ([] : List Int), 0, 0, 17)))) else (some (([] : List Int), ([] : List Int), 0, 0, 3)))) else (some (([] : List Int), ([] : List Int), 0, 0, t266)))) = some (r1, r2, r3, r4, r5) := by rw [if_pos rfl] at H; exact H
 clear H
 have H := H1
 clear H1
 replace H := Option.bind_eq_some_iff.mp H
 obtain ⟨t266, A60, H⟩ := H
 replace H : (if t266 = 0 then ((impl_isOrder.f k l2 (l0.length : Int)).bind fun t267 => (if t267 = true then ((impl_routeOf.f k l0 a1 l2).bind fun bt268 => (if bt268.2.2.2.2 = true then (some (bt268.1, bt268.2.1, bt268.2.2.1, bt268.2.2.2.1, 0)) else (some (([] : List Int), ([] : List Int), 0, 0, 17)))) else (some (([] : List Int), ([] : List Int), 0, 0, 3)))) else (some (([] : List Int), ([] : List Int), 0, 0, t266))) = some (r1, r2, r3, r4, r5) := H
 have A6 := za A60
 clear A60
 by_cases c7 : t266 = 0
 rotate_left
 ·rw [if_neg c7] at H
  have c7b0 : (t266 == 0) = false := beq_eq_false_iff_ne.mpr c7
  have c7b1 : (t266 != 0) = true := bne_iff_ne.mpr c7
  simp only [Option.some.injEq, Prod.mk.injEq] at H
  obtain ⟨rfl, rfl, rfl, rfl, rfl⟩ := H
  go_enter Try.func11, Try.ntmps11
  go_wp2_with (first | ((with_reducible refine gate_dst (N := 6) rfl ?_); refine box_event ?hg (N := 6) ?hd (cs := #[.slice none 0 0, .slice none 0 0, .int .i64 0, .int .i64 0]) (t := 28) ?hr ?_; (case hd => rfl); (case hg => rfl); (case hr => exact zH103); intro gb264 hg w39 hbox hb; have n_ := zA_ (za (zv zG95 hb)) (zA_ (za (hbox)) (zA_ (zN1 w.heap.size hg (zt zG95)) (zN1 w.heap.size hg (zt zG95)))); clear HB; obtain ⟨HB, BK264, GW264, GE264⟩ := n_; clear hb hbox hg) | ((with_reducible refine gate_callee (f := 63) rfl ?_); refine goesL_ (some 12) rfl rfl Try.func63 zG125 rfl #[.slice A2 l2.length c2] rfl zG87 ?_; (with_reducible refine (impl_isList_int.calls _ _ l2 true _ ?side1 ?side2 A4.out).mono ?_); (case side1 => exact zH57); (case side2 => exact HC2.out); rintro e w' ⟨rfl, ⟨nd, rfl⟩⟩; refine ⟨_, rfl, ?_⟩; (try (rw [drewN_self w39]; generalize hq_ : World.drewN w39 _ = w39; have n0_ : Aside0 (w39.heap[gb264]? = some (.cells #[.slice none 0 0, .slice none 0 0, .int .i64 0, .int .i64 0] 28 (0, 0))) := ⟨by rw [← hq_]; exact zG101⟩; have n1_ : Aside0 (Below w.heap.size w w39) := ⟨by rw [← hq_]; exact zG92⟩; clear BK264 HB hq_; have BK264 := n0_; have HB := n1_; clear n0_ n1_)); (try have hcu40_0 : w39.cell? ⟨gb264, 0, none⟩ = some (.slice none 0 0) := (zl BK264.out 0).trans rfl); (try have hcu40_1 : w39.cell? ⟨gb264, 1, none⟩ = some (.slice none 0 0) := (zl BK264.out 1).trans rfl); (try have hcu40_2 : w39.cell? ⟨gb264, 2, none⟩ = some (.int .i64 0) := (zl BK264.out 2).trans rfl); (try have hcu40_3 : w39.cell? ⟨gb264, 3, none⟩ = some (.int .i64 0) := (zl BK264.out 3).trans rfl); (try have hfcu40_0 := zn BK264.out 0); (try have hfcu40_1 := zn BK264.out 1); (try have hfcu40_2 := zn BK264.out 2); (try have hfcu40_3 := zn BK264.out 3)) | ((with_reducible refine gate_callee (f := 59) rfl ?_); refine goesL_ (some 17) rfl rfl Try.func59 zG125 rfl #[.slice A0 l0.length c0, .int .i64 a1] rfl zG87 ?_; (with_reducible refine (impl_stopsCode.calls k _ _ l0 a1 t266 _ ?side1 ?side2 A6.out).mono ?_); (case side1 => exact zH58); (case side2 => exact zH110); rintro e w41 ⟨rfl, hb⟩; refine ⟨_, rfl, ?_⟩; have n_ := zA_ (za (zs (g := gb264) (o := .cells #[.slice none 0 0, .slice none 0 0, .int .i64 0, .int .i64 0] 28 (0, 0)) zG101 hb)) (za (zv zG92 hb)); clear BK264 HB; obtain ⟨BK264, HB⟩ := n_; (try clear hb); obtain ⟨hcz42_0, hcz42_1, hcz42_2, hcz42_3, hfz42_0, hfz42_1, hfz42_2, hfz42_3⟩ := zB4 BK264.out))
  refine bodyPost_ret (results_ct rfl _ _ gb264 28 #[.slice none 0 0, .slice none 0 0, .int .i64 0, .int .i64 0] (0, 0) _ rfl zK119 Try.underlying28 rfl zG125) rfl ?_
  exact zH11
 rw [if_pos c7] at H
 have c7b0 : (t266 == 0) = true := beq_iff_eq.mpr c7
 have c7b1 : (t266 != 0) = false := bne_eq_false_iff_eq.mpr c7
 clear c7
 replace H := Option.bind_eq_some_iff.mp H
 obtain ⟨t267, A80, H⟩ := H
 replace H : (if t267 = true then ((impl_routeOf.f k l0 a1 l2).bind fun bt268 => (if bt268.2.2.2.2 = true then (some (bt268.1, bt268.2.1, bt268.2.2.1, bt268.2.2.2.1, 0)) else (some (([] : List Int), ([] : List Int), 0, 0, 17)))) else (some (([] : List Int), ([] : List Int), 0, 0, 3))) = some (r1, r2, r3, r4, r5) := H
 have A8 := za A80
 clear A80
 by_cases c9 : t267 = true
 rotate_left
 ·replace c9 := Bool.eq_false_iff.mpr c9
  subst c9
  have H1 : (some (([] : List Int), ([] : List Int), 0, 0, 3)) = some (r1, r2, r3, r4, r5) := by rw [if_neg (show ¬ (false = true) by decide)] at H; exact H
  clear H
  have H := H1
  clear H1
  simp only [Option.some.injEq, Prod.mk.injEq] at H
  obtain ⟨rfl, rfl, rfl, rfl, rfl⟩ := H
  go_enter Try.func11, Try.ntmps11
  go_wp2_with (first | ((with_reducible refine gate_dst (N := 6) rfl ?_); refine box_event ?hg (N := 6) ?hd (cs := #[.slice none 0 0, .slice none 0 0, .int .i64 0, .int .i64 0]) (t := 28) ?hr ?_; (case hd => rfl); (case hg => rfl); (case hr => exact zH103); intro gb264 hg w34 hbox hb; have n_ := zA_ (za (zv zG95 hb)) (zA_ (za (hbox)) (zA_ (zN1 w.heap.size hg (zt zG95)) (zN1 w.heap.size hg (zt zG95)))); clear HB; obtain ⟨HB, BK264, GW264, GE264⟩ := n_; clear hb hbox hg) | ((with_reducible refine gate_callee (f := 63) rfl ?_); refine goesL_ (some 12) rfl rfl Try.func63 zG125 rfl #[.slice A2 l2.length c2] rfl zG87 ?_; (with_reducible refine (impl_isList_int.calls _ _ l2 true _ ?side1 ?side2 A4.out).mono ?_); (case side1 => exact zH57); (case side2 => exact HC2.out); rintro e w' ⟨rfl, ⟨nd, rfl⟩⟩; refine ⟨_, rfl, ?_⟩; (try (rw [drewN_self w34]; generalize hq_ : World.drewN w34 _ = w34; have n0_ : Aside0 (w34.heap[gb264]? = some (.cells #[.slice none 0 0, .slice none 0 0, .int .i64 0, .int .i64 0] 28 (0, 0))) := ⟨by rw [← hq_]; exact zG101⟩; have n1_ : Aside0 (Below w.heap.size w w34) := ⟨by rw [← hq_]; exact zG92⟩; clear BK264 HB hq_; have BK264 := n0_; have HB := n1_; clear n0_ n1_)); (try have hcu35_0 : w34.cell? ⟨gb264, 0, none⟩ = some (.slice none 0 0) := (zl BK264.out 0).trans rfl); (try have hcu35_1 : w34.cell? ⟨gb264, 1, none⟩ = some (.slice none 0 0) := (zl BK264.out 1).trans rfl); (try have hcu35_2 : w34.cell? ⟨gb264, 2, none⟩ = some (.int .i64 0) := (zl BK264.out 2).trans rfl); (try have hcu35_3 : w34.cell? ⟨gb264, 3, none⟩ = some (.int .i64 0) := (zl BK264.out 3).trans rfl); (try have hfcu35_0 := zn BK264.out 0); (try have hfcu35_1 := zn BK264.out 1); (try have hfcu35_2 := zn BK264.out 2); (try have hfcu35_3 := zn BK264.out 3)) | ((with_reducible refine gate_callee (f := 59) rfl ?_); refine goesL_ (some 17) rfl rfl Try.func59 zG125 rfl #[.slice A0 l0.length c0, .int .i64 a1] rfl zG87 ?_; (with_reducible refine (impl_stopsCode.calls k _ _ l0 a1 t266 _ ?side1 ?side2 A6.out).mono ?_); (case side1 => exact zH58); (case side2 => exact zH110); rintro e w36 ⟨rfl, hb⟩; refine ⟨_, rfl, ?_⟩; have n_ := zA_ (za (zs (g := gb264) (o := .cells #[.slice none 0 0, .slice none 0 0, .int .i64 0, .int .i64 0] 28 (0, 0)) zG101 hb)) (za (zv zG92 hb)); clear BK264 HB; obtain ⟨BK264, HB⟩ := n_; (try clear hb)) | ((with_reducible refine gate_callee (f := 64) rfl ?_); refine goesL_ (some 25) rfl rfl Try.func64 zG125 rfl #[.slice A2 l2.length c2, .int .i64 (l0.length : Int)] rfl zG87 ?_; (with_reducible refine (impl_isOrder.calls k _ _ l2 (l0.length : Int) false _ ?side1 ?side2 A8.out).mono ?_); (case side1 => exact zH57); (case side2 => exact HC2.out); rintro e w37 ⟨rfl, hb⟩; refine ⟨_, rfl, ?_⟩; have n_ := zA_ (za (zs (g := gb264) (o := .cells #[.slice none 0 0, .slice none 0 0, .int .i64 0, .int .i64 0] 28 (0, 0)) zG101 hb)) (za (zv zG92 hb)); clear BK264 HB; obtain ⟨BK264, HB⟩ := n_; (try clear hb); obtain ⟨hcz38_0, hcz38_1, hcz38_2, hcz38_3, hfz38_0, hfz38_1, hfz38_2, hfz38_3⟩ := zB4 BK264.out))
  refine bodyPost_ret (results_ct rfl _ _ gb264 28 #[.slice none 0 0, .slice none 0 0, .int .i64 0, .int .i64 0] (0, 0) _ rfl zK119 Try.underlying28 rfl zG125) rfl ?_
  exact zH11
 subst c9
 have H1 : ((impl_routeOf.f k l0 a1 l2).bind fun bt268 => (if bt268.2.2.2.2 = true then (some (bt268.1, bt268.2.1, bt268.2.2.1, bt268.2.2.2.1, 0)) else (some (([] : List Int), ([] : List Int), 0, 0, 17)))) = some (r1, r2, r3, r4, r5) := by rw [if_pos rfl] at H; exact H
 clear H
 have H := H1
 clear H1
 replace H := Option.bind_eq_some_iff.mp H
 obtain ⟨⟨t268, t271, t274, t275, t276⟩, A100, H⟩ := H
 replace H : (if t276 = true then (some (t268, t271, t274, t275, 0)) else (some (([] : List Int), ([] : List Int), 0, 0, 17))) = some (r1, r2, r3, r4, r5) := H
 have A10 := za A100
 clear A100
 by_cases c11 : t276 = true
 ·subst c11
  have H1 : (some (t268, t271, t274, t275, 0)) = some (r1, r2, r3, r4, r5) := by rw [if_pos rfl] at H; exact H
  clear H
  have H := H1
  clear H1
  simp only [Option.some.injEq, Prod.mk.injEq] at H
  obtain ⟨rfl, rfl, rfl, rfl, rfl⟩ := H
  go_enter Try.func11, Try.ntmps11
  go_wp2_with (first | ((with_reducible refine gate_dst (N := 6) rfl ?_); refine box_event ?hg (N := 6) ?hd (cs := #[.slice none 0 0, .slice none 0 0, .int .i64 0, .int .i64 0]) (t := 28) ?hr ?_; (case hd => rfl); (case hg => rfl); (case hr => exact zH103); intro gb264 hg w12 hbox hb; have n_ := zA_ (za (zv zG95 hb)) (zA_ (za (hbox)) (zA_ (zN1 w.heap.size hg (zt zG95)) (zN1 w.heap.size hg (zt zG95)))); clear HB; obtain ⟨HB, BK264, GW264, GE264⟩ := n_; clear hb hbox hg) | ((with_reducible refine gate_callee (f := 63) rfl ?_); refine goesL_ (some 12) rfl rfl Try.func63 zG125 rfl #[.slice A2 l2.length c2] rfl zG87 ?_; (with_reducible refine (impl_isList_int.calls _ _ l2 true _ ?side1 ?side2 A4.out).mono ?_); (case side1 => exact zH57); (case side2 => exact HC2.out); rintro e w' ⟨rfl, ⟨nd, rfl⟩⟩; refine ⟨_, rfl, ?_⟩; (try (rw [drewN_self w12]; generalize hq_ : World.drewN w12 _ = w12; have n0_ : Aside0 (w12.heap[gb264]? = some (.cells #[.slice none 0 0, .slice none 0 0, .int .i64 0, .int .i64 0] 28 (0, 0))) := ⟨by rw [← hq_]; exact zG101⟩; have n1_ : Aside0 (Below w.heap.size w w12) := ⟨by rw [← hq_]; exact zG92⟩; clear BK264 HB hq_; have BK264 := n0_; have HB := n1_; clear n0_ n1_)); (try have hcu13_0 : w12.cell? ⟨gb264, 0, none⟩ = some (.slice none 0 0) := (zl BK264.out 0).trans rfl); (try have hcu13_1 : w12.cell? ⟨gb264, 1, none⟩ = some (.slice none 0 0) := (zl BK264.out 1).trans rfl); (try have hcu13_2 : w12.cell? ⟨gb264, 2, none⟩ = some (.int .i64 0) := (zl BK264.out 2).trans rfl); (try have hcu13_3 : w12.cell? ⟨gb264, 3, none⟩ = some (.int .i64 0) := (zl BK264.out 3).trans rfl); (try have hfcu13_0 := zn BK264.out 0); (try have hfcu13_1 := zn BK264.out 1); (try have hfcu13_2 := zn BK264.out 2); (try have hfcu13_3 := zn BK264.out 3)) | ((with_reducible refine gate_callee (f := 59) rfl ?_); refine goesL_ (some 17) rfl rfl Try.func59 zG125 rfl #[.slice A0 l0.length c0, .int .i64 a1] rfl zG87 ?_; (with_reducible refine (impl_stopsCode.calls k _ _ l0 a1 t266 _ ?side1 ?side2 A6.out).mono ?_); (case side1 => exact zH58); (case side2 => exact zH110); rintro e w14 ⟨rfl, hb⟩; refine ⟨_, rfl, ?_⟩; have n_ := zA_ (za (zs (g := gb264) (o := .cells #[.slice none 0 0, .slice none 0 0, .int .i64 0, .int .i64 0] 28 (0, 0)) zG101 hb)) (za (zv zG92 hb)); clear BK264 HB; obtain ⟨BK264, HB⟩ := n_; (try clear hb)) | ((with_reducible refine gate_callee (f := 64) rfl ?_); refine goesL_ (some 25) rfl rfl Try.func64 zG125 rfl #[.slice A2 l2.length c2, .int .i64 (l0.length : Int)] rfl zG87 ?_; (with_reducible refine (impl_isOrder.calls k _ _ l2 (l0.length : Int) true _ ?side1 ?side2 A8.out).mono ?_); (case side1 => exact zH57); (case side2 => exact HC2.out); rintro e w15 ⟨rfl, hb⟩; refine ⟨_, rfl, ?_⟩; have n_ := zA_ (za (zs (g := gb264) (o := .cells #[.slice none 0 0, .slice none 0 0, .int .i64 0, .int .i64 0] 28 (0, 0)) zG101 hb)) (za (zv zG92 hb)); clear BK264 HB; obtain ⟨BK264, HB⟩ := n_; (try clear hb)) | ((with_reducible refine gate_callee (f := 62) rfl ?_); refine goesL_ (some 32) rfl rfl Try.func62 zG125 rfl #[.slice A0 l0.length c0, .int .i64 a1, .slice A2 l2.length c2] rfl zG87 ?_; (with_reducible refine (impl_routeOf.calls k _ _ l0 a1 _ _ l2 t268 t271 t274 t275 true _ ?side1 ?side2 ?side3 ?side4 A10.out).mono ?_); (case side1 => exact zH58); (case side2 => exact zH110); (case side3 => exact zH57); (case side4 => exact HC2.out); rintro e w16 ⟨v269, v272, rfl, ho0, ho1, hb⟩; refine ⟨_, rfl, ?_⟩; have n_ := zA_ (za (zae ho0 (zt zG92))) (zA_ (za (zae ho1 (zt zG92))) (zA_ (za (zs (g := gb264) (o := .cells #[.slice none 0 0, .slice none 0 0, .int .i64 0, .int .i64 0] 28 (0, 0)) zG101 hb)) (za (zv zG92 hb)))); clear BK264 HB; obtain ⟨HO270, HO273, BK264, HB⟩ := n_; (try clear hb); (try clear ho0); (try clear ho1)) | ((with_reducible refine gate_dst (N := 9) rfl ?_); refine box_event ?hg (N := 9) ?hd (cs := #[.slice none 0 0, .slice none 0 0, .int .i64 0, .int .i64 0]) (t := 28) ?hr ?_; (case hd => rfl); (case hg => rfl); (case hr => exact zH103); intro gb277 hg w17 hbox hb; have n_ := zA_ (za (zp (by (with_reducible repeat (first | apply zf | apply zg | apply zh)); exact HO270.out) hb)) (zA_ (za (zp (by (with_reducible repeat (first | apply zf | apply zg | apply zh)); exact HO273.out) hb)) (zA_ (za (zs (g := gb264) (o := .cells #[.slice none 0 0, .slice none 0 0, .int .i64 0, .int .i64 0] 28 (0, 0)) zG101 hb)) (zA_ (za (zv zG92 hb)) (zA_ (za (hbox)) (zA_ (zN1 w.heap.size hg (zt zG92)) (zA_ (zN1 w.heap.size hg (zt zG92)) (zN2 hg (zac (g := gb264) (o := .cells #[.slice none 0 0, .slice none 0 0, .int .i64 0, .int .i64 0] 28 (0, 0)) zG101)))))))); clear HO270 HO273 BK264 HB; obtain ⟨HO270, HO273, BK264, HB, BK277, GW277, GE277, NB264_277, NB277_264⟩ := n_; clear hb hbox hg; obtain ⟨Ao18, co18, eo18⟩ := zad HO270.out; subst eo18; have hnb19 := NB277_264.out; have hnc19 := NB264_277.out; obtain ⟨hcz20_0, hcz20_1, hcz20_2, hcz20_3, hfz20_0, hfz20_1, hfz20_2, hfz20_3⟩ := zB4 BK277.out; obtain ⟨Ao21, co21, eo21⟩ := zad HO273.out; subst eo21; obtain ⟨hcz22_0, hcz22_1, hcz22_2, hcz22_3, hfz22_0, hfz22_1, hfz22_2, hfz22_3⟩ := zB4 BK264.out))
  refine bodyPost_ret (results_ct rfl _ _ gb264 28 #[.slice Ao18 t268.length co18, .slice Ao21 t271.length co21, .int .i64 t274, .int .i64 t275] (0, 0) _ rfl (by (with_reducible repeat (first | refine zc ?_ _ | refine ze ?_ | refine zb ?_ _)); refine zu (cs := #[.slice Ao18 t268.length co18, .slice Ao21 t271.length co21, .int .i64 t274, .int .i64 0]) ?_ 3 _ rfl; (with_reducible repeat (first | refine zc ?_ _ | refine ze ?_ | refine zb ?_ _)); refine zu (cs := #[.slice Ao18 t268.length co18, .slice Ao21 t271.length co21, .int .i64 0, .int .i64 0]) ?_ 2 _ rfl; (with_reducible repeat (first | refine zc ?_ _ | refine ze ?_ | refine zb ?_ _)); refine zu (cs := #[.slice Ao18 t268.length co18, .slice none 0 0, .int .i64 0, .int .i64 0]) ?_ 1 _ rfl; (with_reducible repeat (first | refine zc ?_ _ | refine ze ?_ | refine zb ?_ _)); refine zu (cs := #[.slice none 0 0, .slice none 0 0, .int .i64 0, .int .i64 0]) ?_ 0 _ rfl; (with_reducible repeat (first | refine zc ?_ _ | refine ze ?_ | refine zb ?_ _)); refine zr ?_ NB264_277.out _; (with_reducible repeat (first | refine zc ?_ _ | refine ze ?_ | refine zb ?_ _)); refine zr ?_ NB264_277.out _; (with_reducible repeat (first | refine zc ?_ _ | refine ze ?_ | refine zb ?_ _)); refine zr ?_ NB264_277.out _; (with_reducible repeat (first | refine zc ?_ _ | refine ze ?_ | refine zb ?_ _)); refine zr ?_ NB264_277.out _; (with_reducible repeat (first | refine zc ?_ _ | refine ze ?_ | refine zb ?_ _)); exact BK264.out) Try.underlying28 rfl zG125) rfl ?_
  exact ⟨_, _, zH92, by (with_reducible repeat (first | apply zf | apply zg | apply zh)); exact zo (zd (p := ⟨gb264, 3, none⟩) (zd (p := ⟨gb264, 2, none⟩) (zd (p := ⟨gb264, 1, none⟩) (zd (p := ⟨gb264, 0, none⟩) (zd (p := ⟨gb277, 3, none⟩) (zd (p := ⟨gb277, 2, none⟩) (zd (p := ⟨gb277, 1, none⟩) (zd (p := ⟨gb277, 0, none⟩) (zq (zq HO270.out BK277.out zG126) BK264.out zG126) (fun _ hk => hk.1.2) (.slice Ao18 t268.length co18)) (fun _ hk => hk.1.2) (.slice Ao21 t271.length co21)) (fun _ hk => hk.1.2) (.int .i64 t274)) (fun _ hk => hk.1.2) (.int .i64 t275)) (fun _ hk => hk.2) (.slice Ao18 t268.length co18)) (fun _ hk => hk.2) (.slice Ao21 t271.length co21)) (fun _ hk => hk.2) (.int .i64 t274)) (fun _ hk => hk.2) (.int .i64 t275)) (fun _ hk => hk.1.1), by (with_reducible repeat (first | apply zf | apply zg | apply zh)); exact zo (zd (p := ⟨gb264, 3, none⟩) (zd (p := ⟨gb264, 2, none⟩) (zd (p := ⟨gb264, 1, none⟩) (zd (p := ⟨gb264, 0, none⟩) (zd (p := ⟨gb277, 3, none⟩) (zd (p := ⟨gb277, 2, none⟩) (zd (p := ⟨gb277, 1, none⟩) (zd (p := ⟨gb277, 0, none⟩) (zq (zq HO273.out BK277.out zG126) BK264.out zG126) (fun _ hk => hk.1.2) (.slice Ao18 t268.length co18)) (fun _ hk => hk.1.2) (.slice Ao21 t271.length co21)) (fun _ hk => hk.1.2) (.int .i64 t274)) (fun _ hk => hk.1.2) (.int .i64 t275)) (fun _ hk => hk.2) (.slice Ao18 t268.length co18)) (fun _ hk => hk.2) (.slice Ao21 t271.length co21)) (fun _ hk => hk.2) (.int .i64 t274)) (fun _ hk => hk.2) (.int .i64 t275)) (fun _ hk => hk.1.1), zH50⟩
 replace c11 := Bool.eq_false_iff.mpr c11
 subst c11
 have H1 : (some (([] : List Int), ([] : List Int), 0, 0, 17)) = some (r1, r2, r3, r4, r5) := by rw [if_neg (show ¬ (false = true) by decide)] at H; exact H
 clear H
 have H := H1
 clear H1
 simp only [Option.some.injEq, Prod.mk.injEq] at H
 obtain ⟨rfl, rfl, rfl, rfl, rfl⟩ := H
 go_enter Try.func11, Try.ntmps11
 go_wp2_with (first | ((with_reducible refine gate_dst (N := 6) rfl ?_); refine box_event ?hg (N := 6) ?hd (cs := #[.slice none 0 0, .slice none 0 0, .int .i64 0, .int .i64 0]) (t := 28) ?hr ?_; (case hd => rfl); (case hg => rfl); (case hr => exact zH103); intro gb264 hg w23 hbox hb; have n_ := zA_ (za (zv zG95 hb)) (zA_ (za (hbox)) (zA_ (zN1 w.heap.size hg (zt zG95)) (zN1 w.heap.size hg (zt zG95)))); clear HB; obtain ⟨HB, BK264, GW264, GE264⟩ := n_; clear hb hbox hg) | ((with_reducible refine gate_callee (f := 63) rfl ?_); refine goesL_ (some 12) rfl rfl Try.func63 zG125 rfl #[.slice A2 l2.length c2] rfl zG87 ?_; (with_reducible refine (impl_isList_int.calls _ _ l2 true _ ?side1 ?side2 A4.out).mono ?_); (case side1 => exact zH57); (case side2 => exact HC2.out); rintro e w' ⟨rfl, ⟨nd, rfl⟩⟩; refine ⟨_, rfl, ?_⟩; (try (rw [drewN_self w23]; generalize hq_ : World.drewN w23 _ = w23; have n0_ : Aside0 (w23.heap[gb264]? = some (.cells #[.slice none 0 0, .slice none 0 0, .int .i64 0, .int .i64 0] 28 (0, 0))) := ⟨by rw [← hq_]; exact zG101⟩; have n1_ : Aside0 (Below w.heap.size w w23) := ⟨by rw [← hq_]; exact zG92⟩; clear BK264 HB hq_; have BK264 := n0_; have HB := n1_; clear n0_ n1_)); (try have hcu24_0 : w23.cell? ⟨gb264, 0, none⟩ = some (.slice none 0 0) := (zl BK264.out 0).trans rfl); (try have hcu24_1 : w23.cell? ⟨gb264, 1, none⟩ = some (.slice none 0 0) := (zl BK264.out 1).trans rfl); (try have hcu24_2 : w23.cell? ⟨gb264, 2, none⟩ = some (.int .i64 0) := (zl BK264.out 2).trans rfl); (try have hcu24_3 : w23.cell? ⟨gb264, 3, none⟩ = some (.int .i64 0) := (zl BK264.out 3).trans rfl); (try have hfcu24_0 := zn BK264.out 0); (try have hfcu24_1 := zn BK264.out 1); (try have hfcu24_2 := zn BK264.out 2); (try have hfcu24_3 := zn BK264.out 3)) | ((with_reducible refine gate_callee (f := 59) rfl ?_); refine goesL_ (some 17) rfl rfl Try.func59 zG125 rfl #[.slice A0 l0.length c0, .int .i64 a1] rfl zG87 ?_; (with_reducible refine (impl_stopsCode.calls k _ _ l0 a1 t266 _ ?side1 ?side2 A6.out).mono ?_); (case side1 => exact zH58); (case side2 => exact zH110); rintro e w25 ⟨rfl, hb⟩; refine ⟨_, rfl, ?_⟩; have n_ := zA_ (za (zs (g := gb264) (o := .cells #[.slice none 0 0, .slice none 0 0, .int .i64 0, .int .i64 0] 28 (0, 0)) zG101 hb)) (za (zv zG92 hb)); clear BK264 HB; obtain ⟨BK264, HB⟩ := n_; (try clear hb)) | ((with_reducible refine gate_callee (f := 64) rfl ?_); refine goesL_ (some 25) rfl rfl Try.func64 zG125 rfl #[.slice A2 l2.length c2, .int .i64 (l0.length : Int)] rfl zG87 ?_; (with_reducible refine (impl_isOrder.calls k _ _ l2 (l0.length : Int) true _ ?side1 ?side2 A8.out).mono ?_); (case side1 => exact zH57); (case side2 => exact HC2.out); rintro e w26 ⟨rfl, hb⟩; refine ⟨_, rfl, ?_⟩; have n_ := zA_ (za (zs (g := gb264) (o := .cells #[.slice none 0 0, .slice none 0 0, .int .i64 0, .int .i64 0] 28 (0, 0)) zG101 hb)) (za (zv zG92 hb)); clear BK264 HB; obtain ⟨BK264, HB⟩ := n_; (try clear hb)) | ((with_reducible refine gate_callee (f := 62) rfl ?_); refine goesL_ (some 32) rfl rfl Try.func62 zG125 rfl #[.slice A0 l0.length c0, .int .i64 a1, .slice A2 l2.length c2] rfl zG87 ?_; (with_reducible refine (impl_routeOf.calls k _ _ l0 a1 _ _ l2 t268 t271 t274 t275 false _ ?side1 ?side2 ?side3 ?side4 A10.out).mono ?_); (case side1 => exact zH58); (case side2 => exact zH110); (case side3 => exact zH57); (case side4 => exact HC2.out); rintro e w27 ⟨v269, v272, rfl, ho0, ho1, hb⟩; refine ⟨_, rfl, ?_⟩; have n_ := zA_ (za (zae ho0 (zt zG92))) (zA_ (za (zae ho1 (zt zG92))) (zA_ (za (zs (g := gb264) (o := .cells #[.slice none 0 0, .slice none 0 0, .int .i64 0, .int .i64 0] 28 (0, 0)) zG101 hb)) (za (zv zG92 hb)))); clear BK264 HB; obtain ⟨HO270, HO273, BK264, HB⟩ := n_; (try clear hb); (try clear ho0); (try clear ho1)) | ((with_reducible refine gate_dst (N := 9) rfl ?_); refine box_event ?hg (N := 9) ?hd (cs := #[.slice none 0 0, .slice none 0 0, .int .i64 0, .int .i64 0]) (t := 28) ?hr ?_; (case hd => rfl); (case hg => rfl); (case hr => exact zH103); intro gb277 hg w28 hbox hb; have n_ := zA_ (za (zp (by (with_reducible repeat (first | apply zf | apply zg | apply zh)); exact HO270.out) hb)) (zA_ (za (zp (by (with_reducible repeat (first | apply zf | apply zg | apply zh)); exact HO273.out) hb)) (zA_ (za (zs (g := gb264) (o := .cells #[.slice none 0 0, .slice none 0 0, .int .i64 0, .int .i64 0] 28 (0, 0)) zG101 hb)) (zA_ (za (zv zG92 hb)) (zA_ (za (hbox)) (zA_ (zN1 w.heap.size hg (zt zG92)) (zA_ (zN1 w.heap.size hg (zt zG92)) (zN2 hg (zac (g := gb264) (o := .cells #[.slice none 0 0, .slice none 0 0, .int .i64 0, .int .i64 0] 28 (0, 0)) zG101)))))))); clear HO270 HO273 BK264 HB; obtain ⟨HO270, HO273, BK264, HB, BK277, GW277, GE277, NB264_277, NB277_264⟩ := n_; clear hb hbox hg; obtain ⟨Ao29, co29, eo29⟩ := zad HO270.out; subst eo29; have hnb30 := NB277_264.out; have hnc30 := NB264_277.out; obtain ⟨hcz31_0, hcz31_1, hcz31_2, hcz31_3, hfz31_0, hfz31_1, hfz31_2, hfz31_3⟩ := zB4 BK277.out; obtain ⟨Ao32, co32, eo32⟩ := zad HO273.out; subst eo32; obtain ⟨hcz33_0, hcz33_1, hcz33_2, hcz33_3, hfz33_0, hfz33_1, hfz33_2, hfz33_3⟩ := zB4 BK264.out))
 refine bodyPost_ret (results_ct rfl _ _ gb264 28 #[.slice none 0 0, .slice none 0 0, .int .i64 0, .int .i64 0] (0, 0) _ rfl (by (with_reducible repeat (first | refine zc ?_ _ | refine ze ?_ | refine zb ?_ _)); refine zu (cs := #[.slice none 0 0, .slice none 0 0, .int .i64 0, .int .i64 0]) ?_ 3 _ rfl; (with_reducible repeat (first | refine zc ?_ _ | refine ze ?_ | refine zb ?_ _)); refine zu (cs := #[.slice none 0 0, .slice none 0 0, .int .i64 0, .int .i64 0]) ?_ 2 _ rfl; (with_reducible repeat (first | refine zc ?_ _ | refine ze ?_ | refine zb ?_ _)); refine zu (cs := #[.slice none 0 0, .slice none 0 0, .int .i64 0, .int .i64 0]) ?_ 1 _ rfl; (with_reducible repeat (first | refine zc ?_ _ | refine ze ?_ | refine zb ?_ _)); refine zu (cs := #[.slice none 0 0, .slice none 0 0, .int .i64 0, .int .i64 0]) ?_ 0 _ rfl; (with_reducible repeat (first | refine zc ?_ _ | refine ze ?_ | refine zb ?_ _)); refine zr ?_ NB264_277.out _; (with_reducible repeat (first | refine zc ?_ _ | refine ze ?_ | refine zb ?_ _)); refine zr ?_ NB264_277.out _; (with_reducible repeat (first | refine zc ?_ _ | refine ze ?_ | refine zb ?_ _)); refine zr ?_ NB264_277.out _; (with_reducible repeat (first | refine zc ?_ _ | refine ze ?_ | refine zb ?_ _)); refine zr ?_ NB264_277.out _; (with_reducible repeat (first | refine zc ?_ _ | refine ze ?_ | refine zb ?_ _)); exact BK264.out) Try.underlying28 rfl zG125) rfl ?_
 exact ⟨_, _, zH92, zH73, zH73, zH50⟩
/-! ### spec_l01In: function 122 -/
def spec_l01In.f (a0 : Int) (a1 : Int) (a2 : Int) : Option (Bool) := if a0 ≥ a1 then (some (decide (a0 ≤ a2))) else (some false)
set_option maxHeartbeats 64000000 in
set_option maxRecDepth 100000 in
theorem spec_l01In.calls (a0 : Int) (a1 : Int) (a2 : Int) (r : Bool) (w : World) (h : spec_l01In.f a0 a1 a2 = some r) :
  Calls Try.prog 122 #[.int .i64 a0, .int .i64 a1, .int .i64 a2] w fun e w' => e = .returned (.bool r) ∧ Drawn0 w w' := by
 have H : (if a0 ≥ a1 then (some (decide (a0 ≤ a2))) else (some false)) = some r := h
 clear h
 by_cases c4 : a0 ≥ a1
 ·rw [if_pos c4] at H
  have c4b0 : decide (a1 ≤ a0) = true := decide_eq_true c4
  clear c4
  obtain rfl := Option.some.inj H
  go_enter Try.func122, Try.ntmps122
  go_wp2
  go_ret
  exact zH74
 rw [if_neg c4] at H
 have c4b0 : decide (a1 ≤ a0) = false := decide_eq_false c4
 clear c4
 obtain rfl := Option.some.inj H
 go_enter Try.func122, Try.ntmps122
 go_wp2
 go_ret
 exact zH74

/-! ### spec_StopsOK: function 121 -/
def spec_StopsOK.l0 : Nat → List (S37) → Int → Option (Bool)
 | 0, _, _ => none
 | k + 1, x0, x3 => if x3 < (x0.length : Int) then (if 0 ≤ x3 then ((spec_l01In.f ((rd_T37 x0 x3).f0) (-1000) 1000).bind fun t280 => (if t280 = true then ((spec_l01In.f ((rd_T37 x0 x3).f1) (-1000) 1000).bind fun t281 => (if t281 = true then (if ((rd_T37 x0 x3).f2) < 0 then (some false) else (if ((rd_T37 x0 x3).f2) > ((rd_T37 x0 x3).f3) then (some false) else (if ((rd_T37 x0 x3).f3) > 100000 then (some false) else ((spec_l01In.f ((rd_T37 x0 x3).f4) 0 1000).bind fun t282 => (if t282 = true then (spec_StopsOK.l0 k x0 (wrap64 (x3 + 1))) else (some false)))))) else (some false))) else (some false))) else (none)) else (some true)
def spec_StopsOK.f (k : Nat) (l0 : List (S37)) : Option (Bool) := if (l0.length : Int) > 7 then (some false) else (spec_StopsOK.l0 k l0 0)
theorem spec_StopsOK.mono_l : ∀ k, (∀ y0 y1, LeO (spec_StopsOK.l0 k y0 y1) (spec_StopsOK.l0 (k + 1) y0 y1))
 | 0 => fun _ _ r h => by simp [spec_StopsOK.l0] at h
 | k + 1 => by
  have ih0 := spec_StopsOK.mono_l k
  ·intro y0 y1
   unfold spec_StopsOK.l0
   repeat' first
   | (with_reducible exact ih0 _ _)
   | (with_reducible exact LeO.refl _)
   | (with_reducible exact LeO.none _)
   | (with_reducible refine LeO.ite ?_ ?_)
   | (with_reducible refine LeO.bind ?_ (fun _ => ?_))
   | exact ih0 _ _
   | exact LeO.none _
   | refine LeO.ite ?_ ?_
   | refine LeO.bind ?_ (fun _ => ?_)
theorem spec_StopsOK.mono : ∀ a0 k, LeO (spec_StopsOK.f k a0) (spec_StopsOK.f (k + 1) a0) := by
 intro a0 k
 have ih0 := spec_StopsOK.mono_l k
 unfold spec_StopsOK.f
 repeat' first
   | (with_reducible exact ih0 _ _)
   | (with_reducible exact LeO.refl _)
   | (with_reducible exact LeO.none _)
   | (with_reducible refine LeO.ite ?_ ?_)
   | (with_reducible refine LeO.bind ?_ (fun _ => ?_))
   | exact ih0 _ _
   | exact LeO.none _
   | refine LeO.ite ?_ ?_
   | refine LeO.bind ?_ (fun _ => ?_)
set_option maxHeartbeats 64000000 in
set_option maxRecDepth 100000 in
theorem spec_StopsOK.calls (k : Nat) (A0 : Option Addr) (c0 : Nat) (l0 : List (S37)) (r : Bool) (w : World) (hr0 : Kd.C k37 w A0 l0.length l0) (hc0 : l0.length ≤ c0) (h : spec_StopsOK.f k l0 = some r) :
  Calls Try.prog 121 #[.slice A0 l0.length c0] w fun e w' => e = .returned (.bool r) ∧ Below w.heap.size w w' := by
 have hu37 := Try.underlying37
 obtain ⟨HR0, HC0, HB⟩ := zD3 hr0 hc0 (Below.refl w.heap.size w)
 clear hr0 hc0
 have H : (if (l0.length : Int) > 7 then (some false) else (spec_StopsOK.l0 k l0 0)) = some r := h
 clear h
 by_cases c2 : (l0.length : Int) > 7
 ·rw [if_pos c2] at H
  have c2b0 : decide (7 < (l0.length : Int)) = true := decide_eq_true c2
  have c2b1 : decide (7 < l0.length) = true := decide_eq_true (by omega)
  clear c2
  obtain rfl := Option.some.inj H
  go_enter Try.func121, Try.ntmps121
  go_wp2
  go_ret
  exact zH36
 rw [if_neg c2] at H
 have c2b0 : decide (7 < (l0.length : Int)) = false := decide_eq_false c2
 have c2b1 : decide (7 < l0.length) = false := decide_eq_false (by omega)
 clear c2
 have H' := za H
 clear H
 go_enter Try.func121, Try.ntmps121
 go_wp2
 go_loopg [3] k (fun kq v3 w' => ∃ (x3_1 : Int), v3 = .int .i64 x3_1 ∧ Aside0 (spec_StopsOK.l0 kq l0 x3_1 = some r) ∧ Aside0 (kq ≤ k) ∧ Aside0 (Below w.heap.size w w'))
 case atStart => exact ⟨(0), zG124, H', ⟨Nat.le_refl _⟩, ⟨zH83⟩⟩
 case round =>
  clear H'
  try clear c2
  try clear c2b0
  try clear c2b1
  obtain ⟨x3_1, rfl, HA, HK1, HB⟩ := hrel
  cases gk with
  | zero => exact absurd HA.out (by simp [spec_StopsOK.l0])
  | succ k1 =>
   have H := HA.out
   clear HA
   simp only [spec_StopsOK.l0] at H
   by_cases c3 : x3_1 < (l0.length : Int)
   rotate_left
   ·rw [if_neg c3] at H
    have c3b0 := decide_eq_false c3
    clear c3
    obtain rfl := Option.some.inj H
    go_wp2
    go_ret
    exact zH36

   rw [if_pos c3] at H
   have c3b0 := decide_eq_true c3
   clear c3
   by_cases c4 : 0 ≤ x3_1
   rotate_left
   ·rw [if_neg c4] at H
    exact absurd H (by simp)
   rw [if_pos c4] at H
   have c4b0 := decide_eq_true c4
   clear c4
   replace H := Option.bind_eq_some_iff.mp H
   obtain ⟨t280, A50, H⟩ := H
   replace H : (if t280 = true then ((spec_l01In.f ((rd_T37 l0 x3_1).f1) (-1000) 1000).bind fun t281 => (if t281 = true then (if ((rd_T37 l0 x3_1).f2) < 0 then (some false) else (if ((rd_T37 l0 x3_1).f2) > ((rd_T37 l0 x3_1).f3) then (some false) else (if ((rd_T37 l0 x3_1).f3) > 100000 then (some false) else ((spec_l01In.f ((rd_T37 l0 x3_1).f4) 0 1000).bind fun t282 => (if t282 = true then (spec_StopsOK.l0 k1 l0 (wrap64 (x3_1 + 1))) else (some false)))))) else (some false))) else (some false)) = some r := H
   have A5 := za A50
   clear A50
   by_cases c6 : t280 = true
   rotate_left
   ·replace c6 := Bool.eq_false_iff.mpr c6
    subst c6
    have H1 : (some false) = some r := by rw [if_neg (show ¬ (false = true) by decide)] at H; exact H
    clear H
    have H := H1
    clear H1
    obtain rfl := Option.some.inj H
    have p278 : 0 ≤ (x3_1 : Int) := zO
    have q278 : x3_1 < (l0.length : Int) := zO
    obtain ⟨ad278, e278, hx278_0, hx278_1, hx278_2, hx278_3, hx278_4⟩ := at_T37 HR0.out x3_1 p278 q278
    cases e278
    replace hx278_0 := (HB.out.cell (zx w _ hx278_0)).trans hx278_0
    replace hx278_1 := (HB.out.cell (zx w _ hx278_1)).trans hx278_1
    replace hx278_2 := (HB.out.cell (zx w _ hx278_2)).trans hx278_2
    replace hx278_3 := (HB.out.cell (zx w _ hx278_3)).trans hx278_3
    replace hx278_4 := (HB.out.cell (zx w _ hx278_4)).trans hx278_4
    replace p278 := eq_true p278
    replace q278 := eq_true q278
    go_wp2_with (first | ((with_reducible refine gate_dst (N := 4) rfl ?_); refine box_event ?hg (N := 4) ?hd (cs := #[.int .i64 0, .int .i64 0, .int .i64 0, .int .i64 0, .int .i64 0]) (t := 37) ?hr ?_; (case hd => rfl); (case hg => rfl); (case hr => exact zH103); intro gb279 hg w26 hbox hb; have n_ := zA_ (za (zv zG95 hb)) (zA_ (za (hbox)) (zA_ (zN1 w.heap.size hg (zt zG95)) (zN1 w.heap.size hg (zt zG95)))); clear HB; obtain ⟨HB, BK279, GW279, GE279⟩ := n_; clear hb hbox hg; obtain ⟨hcz27_0, hcz27_1, hcz27_2, hcz27_3, hcz27_4, hfz27_0, hfz27_1, hfz27_2, hfz27_3, hfz27_4⟩ := zB5 BK279.out) | ((with_reducible refine gate_callee (f := 122) rfl ?_); refine goesL_ (some 20) rfl rfl Try.func122 zG125 rfl #[.int .i64 ((rd_T37 l0 x3_1).f0), .int .i64 (-1000), .int .i64 1000] rfl zG87 ?_; (with_reducible refine (spec_l01In.calls ((rd_T37 l0 x3_1).f0) (-1000) 1000 false _ A5.out).mono ?_); rintro e w' ⟨rfl, ⟨nd, rfl⟩⟩; refine ⟨_, rfl, ?_⟩))
    go_ret
    exact zH28
   subst c6
   have H1 : ((spec_l01In.f ((rd_T37 l0 x3_1).f1) (-1000) 1000).bind fun t281 => (if t281 = true then (if ((rd_T37 l0 x3_1).f2) < 0 then (some false) else (if ((rd_T37 l0 x3_1).f2) > ((rd_T37 l0 x3_1).f3) then (some false) else (if ((rd_T37 l0 x3_1).f3) > 100000 then (some false) else ((spec_l01In.f ((rd_T37 l0 x3_1).f4) 0 1000).bind fun t282 => (if t282 = true then (spec_StopsOK.l0 k1 l0 (wrap64 (x3_1 + 1))) else (some false)))))) else (some false))) = some r := by rw [if_pos rfl] at H; exact H
   clear H
   have H := H1
   clear H1
   replace H := Option.bind_eq_some_iff.mp H
   obtain ⟨t281, A70, H⟩ := H
   replace H : (if t281 = true then (if ((rd_T37 l0 x3_1).f2) < 0 then (some false) else (if ((rd_T37 l0 x3_1).f2) > ((rd_T37 l0 x3_1).f3) then (some false) else (if ((rd_T37 l0 x3_1).f3) > 100000 then (some false) else ((spec_l01In.f ((rd_T37 l0 x3_1).f4) 0 1000).bind fun t282 => (if t282 = true then (spec_StopsOK.l0 k1 l0 (wrap64 (x3_1 + 1))) else (some false)))))) else (some false)) = some r := H
   have A7 := za A70
   clear A70
   by_cases c8 : t281 = true
   rotate_left
   ·replace c8 := Bool.eq_false_iff.mpr c8
    subst c8
    have H1 : (some false) = some r := by rw [if_neg (show ¬ (false = true) by decide)] at H; exact H
    clear H
    have H := H1
    clear H1
    obtain rfl := Option.some.inj H
    have p278 : 0 ≤ (x3_1 : Int) := zO
    have q278 : x3_1 < (l0.length : Int) := zO
    obtain ⟨ad278, e278, hx278_0, hx278_1, hx278_2, hx278_3, hx278_4⟩ := at_T37 HR0.out x3_1 p278 q278
    cases e278
    replace hx278_0 := (HB.out.cell (zx w _ hx278_0)).trans hx278_0
    replace hx278_1 := (HB.out.cell (zx w _ hx278_1)).trans hx278_1
    replace hx278_2 := (HB.out.cell (zx w _ hx278_2)).trans hx278_2
    replace hx278_3 := (HB.out.cell (zx w _ hx278_3)).trans hx278_3
    replace hx278_4 := (HB.out.cell (zx w _ hx278_4)).trans hx278_4
    replace p278 := eq_true p278
    replace q278 := eq_true q278
    go_wp2_with (first | ((with_reducible refine gate_dst (N := 4) rfl ?_); refine box_event ?hg (N := 4) ?hd (cs := #[.int .i64 0, .int .i64 0, .int .i64 0, .int .i64 0, .int .i64 0]) (t := 37) ?hr ?_; (case hd => rfl); (case hg => rfl); (case hr => exact zH103); intro gb279 hg w24 hbox hb; have n_ := zA_ (za (zv zG95 hb)) (zA_ (za (hbox)) (zA_ (zN1 w.heap.size hg (zt zG95)) (zN1 w.heap.size hg (zt zG95)))); clear HB; obtain ⟨HB, BK279, GW279, GE279⟩ := n_; clear hb hbox hg; obtain ⟨hcz25_0, hcz25_1, hcz25_2, hcz25_3, hcz25_4, hfz25_0, hfz25_1, hfz25_2, hfz25_3, hfz25_4⟩ := zB5 BK279.out) | ((with_reducible refine gate_callee (f := 122) rfl ?_); refine goesL_ (some 20) rfl rfl Try.func122 zG125 rfl #[.int .i64 ((rd_T37 l0 x3_1).f0), .int .i64 (-1000), .int .i64 1000] rfl zG87 ?_; (with_reducible refine (spec_l01In.calls ((rd_T37 l0 x3_1).f0) (-1000) 1000 true _ A5.out).mono ?_); rintro e w' ⟨rfl, ⟨nd, rfl⟩⟩; refine ⟨_, rfl, ?_⟩) | (go_at_call 122; (with_reducible refine (spec_l01In.calls ((rd_T37 l0 x3_1).f1) (-1000) 1000 false _ A7.out).mono ?_); rintro e w' ⟨rfl, ⟨nd, rfl⟩⟩))
    go_ret
    exact zH28
   subst c8
   have H1 : (if ((rd_T37 l0 x3_1).f2) < 0 then (some false) else (if ((rd_T37 l0 x3_1).f2) > ((rd_T37 l0 x3_1).f3) then (some false) else (if ((rd_T37 l0 x3_1).f3) > 100000 then (some false) else ((spec_l01In.f ((rd_T37 l0 x3_1).f4) 0 1000).bind fun t282 => (if t282 = true then (spec_StopsOK.l0 k1 l0 (wrap64 (x3_1 + 1))) else (some false)))))) = some r := by rw [if_pos rfl] at H; exact H
   clear H
   have H := H1
   clear H1
   by_cases c9 : ((rd_T37 l0 x3_1).f2) < 0
   ·rw [if_pos c9] at H
    have c9b0 := decide_eq_true c9
    clear c9
    obtain rfl := Option.some.inj H
    have p278 : 0 ≤ (x3_1 : Int) := zO
    have q278 : x3_1 < (l0.length : Int) := zO
    obtain ⟨ad278, e278, hx278_0, hx278_1, hx278_2, hx278_3, hx278_4⟩ := at_T37 HR0.out x3_1 p278 q278
    cases e278
    replace hx278_0 := (HB.out.cell (zx w _ hx278_0)).trans hx278_0
    replace hx278_1 := (HB.out.cell (zx w _ hx278_1)).trans hx278_1
    replace hx278_2 := (HB.out.cell (zx w _ hx278_2)).trans hx278_2
    replace hx278_3 := (HB.out.cell (zx w _ hx278_3)).trans hx278_3
    replace hx278_4 := (HB.out.cell (zx w _ hx278_4)).trans hx278_4
    replace p278 := eq_true p278
    replace q278 := eq_true q278
    go_wp2_with (first | ((with_reducible refine gate_dst (N := 4) rfl ?_); refine box_event ?hg (N := 4) ?hd (cs := #[.int .i64 0, .int .i64 0, .int .i64 0, .int .i64 0, .int .i64 0]) (t := 37) ?hr ?_; (case hd => rfl); (case hg => rfl); (case hr => exact zH103); intro gb279 hg w10 hbox hb; have n_ := zA_ (za (zv zG95 hb)) (zA_ (za (hbox)) (zA_ (zN1 w.heap.size hg (zt zG95)) (zN1 w.heap.size hg (zt zG95)))); clear HB; obtain ⟨HB, BK279, GW279, GE279⟩ := n_; clear hb hbox hg; obtain ⟨hcz11_0, hcz11_1, hcz11_2, hcz11_3, hcz11_4, hfz11_0, hfz11_1, hfz11_2, hfz11_3, hfz11_4⟩ := zB5 BK279.out) | ((with_reducible refine gate_callee (f := 122) rfl ?_); refine goesL_ (some 20) rfl rfl Try.func122 zG125 rfl #[.int .i64 ((rd_T37 l0 x3_1).f0), .int .i64 (-1000), .int .i64 1000] rfl zG87 ?_; (with_reducible refine (spec_l01In.calls ((rd_T37 l0 x3_1).f0) (-1000) 1000 true _ A5.out).mono ?_); rintro e w' ⟨rfl, ⟨nd, rfl⟩⟩; refine ⟨_, rfl, ?_⟩) | (go_at_call 122; (with_reducible refine (spec_l01In.calls ((rd_T37 l0 x3_1).f1) (-1000) 1000 true _ A7.out).mono ?_); rintro e w' ⟨rfl, ⟨nd, rfl⟩⟩))
    go_ret
    exact zH28
   rw [if_neg c9] at H
   have c9b0 := decide_eq_false c9
   clear c9
   by_cases c12 : ((rd_T37 l0 x3_1).f2) > ((rd_T37 l0 x3_1).f3)
   ·rw [if_pos c12] at H
    have c12b0 : decide (((rd_T37 l0 x3_1).f3) < ((rd_T37 l0 x3_1).f2)) = true := decide_eq_true c12
    clear c12
    obtain rfl := Option.some.inj H
    have p278 : 0 ≤ (x3_1 : Int) := zO
    have q278 : x3_1 < (l0.length : Int) := zO
    obtain ⟨ad278, e278, hx278_0, hx278_1, hx278_2, hx278_3, hx278_4⟩ := at_T37 HR0.out x3_1 p278 q278
    cases e278
    replace hx278_0 := (HB.out.cell (zx w _ hx278_0)).trans hx278_0
    replace hx278_1 := (HB.out.cell (zx w _ hx278_1)).trans hx278_1
    replace hx278_2 := (HB.out.cell (zx w _ hx278_2)).trans hx278_2
    replace hx278_3 := (HB.out.cell (zx w _ hx278_3)).trans hx278_3
    replace hx278_4 := (HB.out.cell (zx w _ hx278_4)).trans hx278_4
    replace p278 := eq_true p278
    replace q278 := eq_true q278
    go_wp2_with (first | ((with_reducible refine gate_dst (N := 4) rfl ?_); refine box_event ?hg (N := 4) ?hd (cs := #[.int .i64 0, .int .i64 0, .int .i64 0, .int .i64 0, .int .i64 0]) (t := 37) ?hr ?_; (case hd => rfl); (case hg => rfl); (case hr => exact zH103); intro gb279 hg w13 hbox hb; have n_ := zA_ (za (zv zG95 hb)) (zA_ (za (hbox)) (zA_ (zN1 w.heap.size hg (zt zG95)) (zN1 w.heap.size hg (zt zG95)))); clear HB; obtain ⟨HB, BK279, GW279, GE279⟩ := n_; clear hb hbox hg; obtain ⟨hcz14_0, hcz14_1, hcz14_2, hcz14_3, hcz14_4, hfz14_0, hfz14_1, hfz14_2, hfz14_3, hfz14_4⟩ := zB5 BK279.out) | ((with_reducible refine gate_callee (f := 122) rfl ?_); refine goesL_ (some 20) rfl rfl Try.func122 zG125 rfl #[.int .i64 ((rd_T37 l0 x3_1).f0), .int .i64 (-1000), .int .i64 1000] rfl zG87 ?_; (with_reducible refine (spec_l01In.calls ((rd_T37 l0 x3_1).f0) (-1000) 1000 true _ A5.out).mono ?_); rintro e w' ⟨rfl, ⟨nd, rfl⟩⟩; refine ⟨_, rfl, ?_⟩) | (go_at_call 122; (with_reducible refine (spec_l01In.calls ((rd_T37 l0 x3_1).f1) (-1000) 1000 true _ A7.out).mono ?_); rintro e w' ⟨rfl, ⟨nd, rfl⟩⟩))
    go_ret
    exact zH28
   rw [if_neg c12] at H
   have c12b0 : decide (((rd_T37 l0 x3_1).f3) < ((rd_T37 l0 x3_1).f2)) = false := decide_eq_false c12
   clear c12
   by_cases c15 : ((rd_T37 l0 x3_1).f3) > 100000
   ·rw [if_pos c15] at H
    have c15b0 : decide (100000 < ((rd_T37 l0 x3_1).f3)) = true := decide_eq_true c15
    clear c15
    obtain rfl := Option.some.inj H
    have p278 : 0 ≤ (x3_1 : Int) := zO
    have q278 : x3_1 < (l0.length : Int) := zO
    obtain ⟨ad278, e278, hx278_0, hx278_1, hx278_2, hx278_3, hx278_4⟩ := at_T37 HR0.out x3_1 p278 q278
    cases e278
    replace hx278_0 := (HB.out.cell (zx w _ hx278_0)).trans hx278_0
    replace hx278_1 := (HB.out.cell (zx w _ hx278_1)).trans hx278_1
    replace hx278_2 := (HB.out.cell (zx w _ hx278_2)).trans hx278_2
    replace hx278_3 := (HB.out.cell (zx w _ hx278_3)).trans hx278_3
    replace hx278_4 := (HB.out.cell (zx w _ hx278_4)).trans hx278_4
    replace p278 := eq_true p278
    replace q278 := eq_true q278
    go_wp2_with (first | ((with_reducible refine gate_dst (N := 4) rfl ?_); refine box_event ?hg (N := 4) ?hd (cs := #[.int .i64 0, .int .i64 0, .int .i64 0, .int .i64 0, .int .i64 0]) (t := 37) ?hr ?_; (case hd => rfl); (case hg => rfl); (case hr => exact zH103); intro gb279 hg w16 hbox hb; have n_ := zA_ (za (zv zG95 hb)) (zA_ (za (hbox)) (zA_ (zN1 w.heap.size hg (zt zG95)) (zN1 w.heap.size hg (zt zG95)))); clear HB; obtain ⟨HB, BK279, GW279, GE279⟩ := n_; clear hb hbox hg; obtain ⟨hcz17_0, hcz17_1, hcz17_2, hcz17_3, hcz17_4, hfz17_0, hfz17_1, hfz17_2, hfz17_3, hfz17_4⟩ := zB5 BK279.out) | ((with_reducible refine gate_callee (f := 122) rfl ?_); refine goesL_ (some 20) rfl rfl Try.func122 zG125 rfl #[.int .i64 ((rd_T37 l0 x3_1).f0), .int .i64 (-1000), .int .i64 1000] rfl zG87 ?_; (with_reducible refine (spec_l01In.calls ((rd_T37 l0 x3_1).f0) (-1000) 1000 true _ A5.out).mono ?_); rintro e w' ⟨rfl, ⟨nd, rfl⟩⟩; refine ⟨_, rfl, ?_⟩) | (go_at_call 122; (with_reducible refine (spec_l01In.calls ((rd_T37 l0 x3_1).f1) (-1000) 1000 true _ A7.out).mono ?_); rintro e w' ⟨rfl, ⟨nd, rfl⟩⟩))
    go_ret
    exact zH28
   rw [if_neg c15] at H
   have c15b0 : decide (100000 < ((rd_T37 l0 x3_1).f3)) = false := decide_eq_false c15
   clear c15
   replace H := Option.bind_eq_some_iff.mp H
   obtain ⟨t282, A180, H⟩ := H
   replace H : (if t282 = true then (spec_StopsOK.l0 k1 l0 (wrap64 (x3_1 + 1))) else (some false)) = some r := H
   have A18 := za A180
   clear A180
   by_cases c19 : t282 = true
   rotate_left
   ·replace c19 := Bool.eq_false_iff.mpr c19
    subst c19
    have H1 : (some false) = some r := by rw [if_neg (show ¬ (false = true) by decide)] at H; exact H
    clear H
    have H := H1
    clear H1
    obtain rfl := Option.some.inj H
    have p278 : 0 ≤ (x3_1 : Int) := zO
    have q278 : x3_1 < (l0.length : Int) := zO
    obtain ⟨ad278, e278, hx278_0, hx278_1, hx278_2, hx278_3, hx278_4⟩ := at_T37 HR0.out x3_1 p278 q278
    cases e278
    replace hx278_0 := (HB.out.cell (zx w _ hx278_0)).trans hx278_0
    replace hx278_1 := (HB.out.cell (zx w _ hx278_1)).trans hx278_1
    replace hx278_2 := (HB.out.cell (zx w _ hx278_2)).trans hx278_2
    replace hx278_3 := (HB.out.cell (zx w _ hx278_3)).trans hx278_3
    replace hx278_4 := (HB.out.cell (zx w _ hx278_4)).trans hx278_4
    replace p278 := eq_true p278
    replace q278 := eq_true q278
    go_wp2_with (first | ((with_reducible refine gate_dst (N := 4) rfl ?_); refine box_event ?hg (N := 4) ?hd (cs := #[.int .i64 0, .int .i64 0, .int .i64 0, .int .i64 0, .int .i64 0]) (t := 37) ?hr ?_; (case hd => rfl); (case hg => rfl); (case hr => exact zH103); intro gb279 hg w22 hbox hb; have n_ := zA_ (za (zv zG95 hb)) (zA_ (za (hbox)) (zA_ (zN1 w.heap.size hg (zt zG95)) (zN1 w.heap.size hg (zt zG95)))); clear HB; obtain ⟨HB, BK279, GW279, GE279⟩ := n_; clear hb hbox hg; obtain ⟨hcz23_0, hcz23_1, hcz23_2, hcz23_3, hcz23_4, hfz23_0, hfz23_1, hfz23_2, hfz23_3, hfz23_4⟩ := zB5 BK279.out) | ((with_reducible refine gate_callee (f := 122) rfl ?_); refine goesL_ (some 20) rfl rfl Try.func122 zG125 rfl #[.int .i64 ((rd_T37 l0 x3_1).f0), .int .i64 (-1000), .int .i64 1000] rfl zG87 ?_; (with_reducible refine (spec_l01In.calls ((rd_T37 l0 x3_1).f0) (-1000) 1000 true _ A5.out).mono ?_); rintro e w' ⟨rfl, ⟨nd, rfl⟩⟩; refine ⟨_, rfl, ?_⟩) | (go_at_call 122; (with_reducible refine (spec_l01In.calls ((rd_T37 l0 x3_1).f1) (-1000) 1000 true _ A7.out).mono ?_); rintro e w' ⟨rfl, ⟨nd, rfl⟩⟩) | (go_at_call 122; (with_reducible refine (spec_l01In.calls ((rd_T37 l0 x3_1).f4) 0 1000 false _ A18.out).mono ?_); rintro e w' ⟨rfl, ⟨nd, rfl⟩⟩))
    go_ret
    exact zH28
   subst c19
   have H1 : (spec_StopsOK.l0 k1 l0 (wrap64 (x3_1 + 1))) = some r := by rw [if_pos rfl] at H; exact H
   clear H
   have H := H1
   clear H1
   have H' := za H
   clear H
   have p278 : 0 ≤ (x3_1 : Int) := zO
   have q278 : x3_1 < (l0.length : Int) := zO
   obtain ⟨ad278, e278, hx278_0, hx278_1, hx278_2, hx278_3, hx278_4⟩ := at_T37 HR0.out x3_1 p278 q278
   cases e278
   replace hx278_0 := (HB.out.cell (zx w _ hx278_0)).trans hx278_0
   replace hx278_1 := (HB.out.cell (zx w _ hx278_1)).trans hx278_1
   replace hx278_2 := (HB.out.cell (zx w _ hx278_2)).trans hx278_2
   replace hx278_3 := (HB.out.cell (zx w _ hx278_3)).trans hx278_3
   replace hx278_4 := (HB.out.cell (zx w _ hx278_4)).trans hx278_4
   replace p278 := eq_true p278
   replace q278 := eq_true q278
   go_wp2_with (first | ((with_reducible refine gate_dst (N := 4) rfl ?_); refine box_event ?hg (N := 4) ?hd (cs := #[.int .i64 0, .int .i64 0, .int .i64 0, .int .i64 0, .int .i64 0]) (t := 37) ?hr ?_; (case hd => rfl); (case hg => rfl); (case hr => exact zH103); intro gb279 hg w20 hbox hb; have n_ := zA_ (za (zv zG95 hb)) (zA_ (za (hbox)) (zA_ (zN1 w.heap.size hg (zt zG95)) (zN1 w.heap.size hg (zt zG95)))); clear HB; obtain ⟨HB, BK279, GW279, GE279⟩ := n_; clear hb hbox hg; obtain ⟨hcz21_0, hcz21_1, hcz21_2, hcz21_3, hcz21_4, hfz21_0, hfz21_1, hfz21_2, hfz21_3, hfz21_4⟩ := zB5 BK279.out) | ((with_reducible refine gate_callee (f := 122) rfl ?_); refine goesL_ (some 20) rfl rfl Try.func122 zG125 rfl #[.int .i64 ((rd_T37 l0 x3_1).f0), .int .i64 (-1000), .int .i64 1000] rfl zG87 ?_; (with_reducible refine (spec_l01In.calls ((rd_T37 l0 x3_1).f0) (-1000) 1000 true _ A5.out).mono ?_); rintro e w' ⟨rfl, ⟨nd, rfl⟩⟩; refine ⟨_, rfl, ?_⟩) | (go_at_call 122; (with_reducible refine (spec_l01In.calls ((rd_T37 l0 x3_1).f1) (-1000) 1000 true _ A7.out).mono ?_); rintro e w' ⟨rfl, ⟨nd, rfl⟩⟩) | (go_at_call 122; (with_reducible refine (spec_l01In.calls ((rd_T37 l0 x3_1).f4) 0 1000 true _ A18.out).mono ?_); rintro e w' ⟨rfl, ⟨nd, rfl⟩⟩))
   go_roundg k1
   case measure => have := HK1.out; omega
   case rel => exact ⟨(wrap64 (x3_1 + 1)), zG124, H', ⟨zH106⟩, ⟨by repeat (first | (with_reducible first | exact HB.out | apply zm | apply zj | apply zk | refine zi ?_ GE279.out) | exact HB.out)⟩⟩
end Go.Proofs.Ytojncbpeeboooaa.Q
