-- squeezed
-- made by pp.py (wip/tools) out of the translation; Lean checks it
import Derived.Test.YtdohpbhljifodaaD0
import Derived.Test.YtdohpbhljifodaaD3
namespace Go.Proofs.Ytdohpbhljifodaa.D
open Go.RowKit Go.Proofs.YtdohpbhljifodaaW.PrintWords Go.Proofs.YtdohpbhljifodaaW.PrintLast Go.Proofs.YtdohpbhljifodaaW.PrintMore
attribute [local go_sem] max2_int min2_int max_two min_two max_three min_three max_four min_four   -- for this text's walks alone
set_option linter.unusedVariables false
set_option linter.unusedSimpArgs false

abbrev b4A0 := zM 8 0
abbrev b4A1 := zM 8 1
abbrev b4A2 := zM 8 3
abbrev b4A3 := zM 8 7
abbrev b4A4 := zM 8 23
abbrev b4A5 := zM 8 31
/-! ### impl_Carts_hold: function 36 -/
def impl_Carts_hold.j0 : Nat → Bool → Int → Int → Int → List (S36) → Int → Int → Int → Int → Option (Int × Int × Int × Int × (List (S36)))
 | 0, _, _, _, _, _, _, _, _, _ => none
 | k + 1, x5, x1000, x1001, x1002, x1003, x187000, x187001, x187002, x187003 => if x5 = true then (some (5, x1000, x1001, x1002, x1003)) else (if x1001 < x187002 then (some (19, x1000, x1001, x1002, x1003)) else (if x1003.length < 5864062014805 then (some (0, x1000, wrap64 (x1001 - x187002), x1002, (x1003 ++ [(⟨x187001, x187002, wrap64 (x1000 + x187003)⟩ : S36)]))) else (none)))
def impl_Carts_hold.f (k : Nat) (a0_0 : Int) (a0_1 : Int) (a0_2 : Int) (l0_3 : List (S36)) (a1_0 : Int) (a1_1 : Int) (a1_2 : Int) (a1_3 : Int) : Option (Int × Int × Int × Int × (List (S36))) := (impl_within.f a1_1 1 1000000).bind fun t187 => (if t187 = true then ((impl_within.f a1_2 1 100000).bind fun t188 => (if t188 = true then ((impl_within.f a1_3 1 10000).bind fun t189 => (impl_Carts_hold.j0 k (!t189) a0_0 a0_1 a0_2 l0_3 a1_0 a1_1 a1_2 a1_3)) else (impl_Carts_hold.j0 k true a0_0 a0_1 a0_2 l0_3 a1_0 a1_1 a1_2 a1_3))) else (impl_Carts_hold.j0 k true a0_0 a0_1 a0_2 l0_3 a1_0 a1_1 a1_2 a1_3))
theorem impl_Carts_hold.mono_l : ∀ k, (∀ y0 y1 y2 y3 y4 y5 y6 y7 y8, LeO (impl_Carts_hold.j0 k y0 y1 y2 y3 y4 y5 y6 y7 y8) (impl_Carts_hold.j0 (k + 1) y0 y1 y2 y3 y4 y5 y6 y7 y8))
 | 0 => fun _ _ _ _ _ _ _ _ _ r h => by simp [impl_Carts_hold.j0] at h
 | k + 1 => by
  have ih0 := impl_Carts_hold.mono_l k
  ·intro y0 y1 y2 y3 y4 y5 y6 y7 y8
   unfold impl_Carts_hold.j0
   repeat' first
   | (with_reducible exact ih0 _ _ _ _ _ _ _ _ _)
   | (with_reducible exact LeO.refl _)
   | (with_reducible exact LeO.none _)
   | (with_reducible refine LeO.ite ?_ ?_)
   | (with_reducible refine LeO.bind ?_ (fun _ => ?_))
   | exact ih0 _ _ _ _ _ _ _ _ _
   | exact LeO.none _
   | refine LeO.ite ?_ ?_
   | refine LeO.bind ?_ (fun _ => ?_)
theorem impl_Carts_hold.mono : ∀ a0 a1 a2 a3 a4 a5 a6 a7 k, LeO (impl_Carts_hold.f k a0 a1 a2 a3 a4 a5 a6 a7) (impl_Carts_hold.f (k + 1) a0 a1 a2 a3 a4 a5 a6 a7) := by
 intro a0 a1 a2 a3 a4 a5 a6 a7 k
 have ih0 := impl_Carts_hold.mono_l k
 unfold impl_Carts_hold.f
 repeat' first
   | (with_reducible exact ih0 _ _ _ _ _ _ _ _ _)
   | (with_reducible exact LeO.refl _)
   | (with_reducible exact LeO.none _)
   | (with_reducible refine LeO.ite ?_ ?_)
   | (with_reducible refine LeO.bind ?_ (fun _ => ?_))
   | exact ih0 _ _ _ _ _ _ _ _ _
   | exact LeO.none _
   | refine LeO.ite ?_ ?_
   | refine LeO.bind ?_ (fun _ => ?_)
def impl_Carts_hold.T3 : Bool × List (List Nat × List Nat) := (true, [([], []), ([0], [0]), ([1], [1]), ([2], [2]), ([], []), ([4], [4]), ([3, 5], [3, 5]), ([6], [6])])
def impl_Carts_hold.B3 : List Nat := [0, 1, 3, 7, 0, 16, 63, 127]
theorem impl_Carts_hold.tab3 : rtab .any (opsOf Try.f36 3) = impl_Carts_hold.T3 := by kernel_rfl
theorem impl_Carts_hold.bits3 : waitsOk impl_Carts_hold.T3.2 impl_Carts_hold.B3 = true := by kernel_rfl
def impl_Carts_hold.T5 : Bool × List (List Nat × List Nat) := (true, [([], []), ([], []), ([1], [1]), ([2], [2]), ([3], [3]), ([], []), ([5], [5]), ([], []), ([7], [7]), ([], []), ([9], [9]), ([10], [10]), ([11], [11]), ([], []), ([13], [13]), ([12, 14], [12, 14]), ([6, 8, 15], [6, 8, 15]), ([16], [16]), ([4, 17], [4, 17]), ([0, 0, 1, 2, 3, 4, 5, 6, 7, 8, 9, 10, 11, 12, 13, 14, 15, 16, 17, 18], [0]), ([19, 0, 1, 2, 3, 4, 5, 6, 7, 8, 9, 10, 11, 12, 13, 14, 15, 16, 17, 18], [19]), ([20, 18, 18, 0, 1, 2, 3, 4, 5, 6, 7, 8, 9, 10, 11, 12, 13, 14, 15, 16, 17, 18], [18, 20])])
def impl_Carts_hold.B5 : List Nat := [0, 0, 2, 6, 14, 0, 32, 0, 128, 0, 512, 1536, 3584, 0, 8192, 32256, 65504, 131040, 262142, 524287, 1048575, 2097151]
theorem impl_Carts_hold.tab5 : rtab .any (opsOf Try.f36 5) = impl_Carts_hold.T5 := by kernel_rfl
theorem impl_Carts_hold.bits5 : waitsOk impl_Carts_hold.T5.2 impl_Carts_hold.B5 = true := by kernel_rfl
def impl_Carts_hold.T6 : Bool × List (List Nat × List Nat) := (true, [([], []), ([0], [0]), ([1], [1]), ([2], [2]), ([], []), ([4], [4]), ([3, 5], [3, 5]), ([0, 0, 1, 2, 3, 4, 5, 6], [0]), ([7, 0, 1, 2, 3, 4, 5, 6], [7]), ([8, 6, 0, 1, 2, 3, 4, 5, 6], [6, 8])])
def impl_Carts_hold.B6 : List Nat := [0, 1, 3, 7, 0, 16, 63, 127, 255, 511]
theorem impl_Carts_hold.tab6 : rtab .any (opsOf Try.f36 6) = impl_Carts_hold.T6 := by kernel_rfl
theorem impl_Carts_hold.bits6 : waitsOk impl_Carts_hold.T6.2 impl_Carts_hold.B6 = true := by kernel_rfl
set_option maxHeartbeats 64000000 in
set_option maxRecDepth 100000 in
theorem impl_Carts_hold.calls (k : Nat) (gi0 : Nat) (a0_0 : Int) (a0_1 : Int) (a0_2 : Int) (P0_3_ : Nat → Prop) (u9000_ : Value) (l0_3 : List (S36)) (a1_0 : Int) (a1_1 : Int) (a1_2 : Int) (a1_3 : Int) (r1 : Int) (r2 : Int) (r3 : Int) (r4 : Int) (r5 : List (S36)) (w0 w : World) (hB : Below w0.heap.size w0 w) (hbk0 : w.heap[gi0]? = some (.cells #[.int .i64 a0_0, .int .i64 a0_1, .int .i64 a0_2, u9000_] 30 (0, 0))) (hge0 : w0.heap.size ≤ gi0) (ho0_3 : Kd.R k36 36 w w0.heap.size P0_3_ u9000_ l0_3) (h : impl_Carts_hold.f k a0_0 a0_1 a0_2 l0_3 a1_0 a1_1 a1_2 a1_3 = some (r1, r2, r3, r4, r5)) :
  Calls Try.prog 36 #[.pointer (some ⟨gi0, 0, none⟩), .agg #[.int .i64 a1_0, .int .i64 a1_1, .int .i64 a1_2, .int .i64 a1_3]] w fun e w' => ∃ v4_ : Value, e = .returned (.int .i64 r1) ∧ Kd.R k36 36 w' w0.heap.size (fun k_ => (P0_3_ k_ ∨ w.heap.size ≤ k_)) v4_ r5 ∧ w'.heap[gi0]? = some (.cells #[.int .i64 r2, .int .i64 r3, .int .i64 r4, v4_] 30 (0, 0)) ∧ Below w0.heap.size w0 w' ∧ Kept w w' (fun k_ => (P0_3_ k_) ∨ k_ = gi0) := by
 have hu54 := Try.underlying54
 have hu36 := Try.underlying36
 obtain ⟨HO0_3, BK0, GE0, HK, HW0, HB⟩ := zD6 (show Kd.R k36 36 w w0.heap.size (fun k_ => (P0_3_ k_ ∨ w.heap.size ≤ k_)) u9000_ l0_3 from zn ho0_3 (fun k_ hk => (.inl hk))) hbk0 hge0 (Kept.refl w (fun k_ => (P0_3_ k_) ∨ k_ = gi0)) hB.size hB
 clear hbk0 hge0 hB
 have H : ((impl_within.f a1_1 1 1000000).bind fun t187 => (if t187 = true then ((impl_within.f a1_2 1 100000).bind fun t188 => (if t188 = true then ((impl_within.f a1_3 1 10000).bind fun t189 => (impl_Carts_hold.j0 k (!t189) a0_0 a0_1 a0_2 l0_3 a1_0 a1_1 a1_2 a1_3)) else (impl_Carts_hold.j0 k true a0_0 a0_1 a0_2 l0_3 a1_0 a1_1 a1_2 a1_3))) else (impl_Carts_hold.j0 k true a0_0 a0_1 a0_2 l0_3 a1_0 a1_1 a1_2 a1_3))) = some (r1, r2, r3, r4, r5) := h
 clear h
 have HC3 := za H
 clear H
 go_enter Try.func36, Try.ntmps36
 go_upto_region 1 with (first | ((with_reducible refine gate_dst (N := 3) rfl ?_); refine box_event ?hg (N := 3) ?hd (cs := #[.int .i64 a1_0, .int .i64 a1_1, .int .i64 a1_2, .int .i64 a1_3]) (t := 54) ?hr ?_; (case hd => rfl); (case hg => rfl); (case hr => exact zH37); intro gb186 hg w4 hbox hb; have n_ := zA_ (za (zt (by (with_reducible repeat (first | apply zl | apply zk | apply zm)); exact HO0_3.out) hb)) (zA_ (za (zu (g := gi0) (o := .cells #[.int .i64 a0_0, .int .i64 a0_1, .int .i64 a0_2, u9000_] 30 (0, 0)) zK62 hb)) (zA_ (za (Kept.below (S := (fun k_ => (P0_3_ k_) ∨ k_ = gi0)) (by repeat (first | (with_reducible first | exact HK.out | apply Kept.alloc | apply Kept.drewN | apply Kept.drew | refine Kept.setCell ?_ (.inl (Or.inr rfl)) _) | exact HK.out)) hb)) (zA_ (za (zp zK56 hb)) (zA_ (za (hbox)) (zA_ (zN1 w.heap.size hg (by first | exact HK.out.1 | exact (show Kept w _ (fun k_ => (P0_3_ k_) ∨ k_ = gi0) from by repeat (first | (with_reducible first | exact HK.out | apply Kept.alloc | apply Kept.drewN | apply Kept.drew | refine Kept.setCell ?_ (.inl (Or.inr rfl)) _) | exact HK.out)).1)) (zA_ (zN1 w0.heap.size hg (zs zK56)) (zN2 hg (zac (g := gi0) (o := .cells #[.int .i64 a0_0, .int .i64 a0_1, .int .i64 a0_2, u9000_] 30 (0, 0)) zK62)))))))); clear HO0_3 BK0 HK HB; obtain ⟨HO0_3, BK0, HK, HB, BK186, GW186, GE186, NB0_186, NB186_0⟩ := n_; clear hb hbox hg))
 (try simp only [Act.put, List.setIfInBounds_toArray, List.set_cons_zero, List.set_cons_succ])
 go_cut [5] (fun v5 wc => ∃ (kq : Nat) (x5_2 : Bool), v5 = .bool x5_2 ∧ Aside0 (impl_Carts_hold.j0 kq x5_2 a0_0 a0_1 a0_2 l0_3 a1_0 a1_1 a1_2 a1_3 = some (r1, r2, r3, r4, r5)) ∧ Aside0 (kq ≤ k) ∧ Aside0 (Kd.R k36 36 wc w0.heap.size (fun k_ => (P0_3_ k_ ∨ w.heap.size ≤ k_)) u9000_ l0_3) ∧ Aside0 (wc.heap[gi0]? = some (.cells #[.int .i64 a0_0, .int .i64 a0_1, .int .i64 a0_2, u9000_] 30 (0, 0))) ∧ Aside0 (wc.heap[gb186]? = some (.cells #[.int .i64 a1_0, .int .i64 a1_1, .int .i64 a1_2, .int .i64 a1_3] 54 (0, 0))) ∧ Aside0 (Kept w wc (fun k_ => (P0_3_ k_) ∨ k_ = gi0)) ∧ Aside0 (Below w0.heap.size w0 wc))
 case first =>
  have H := HC3.out
  clear HC3
  replace H := Option.bind_eq_some_iff.mp H
  obtain ⟨t187, A50, H⟩ := H
  replace H : (if t187 = true then ((impl_within.f a1_2 1 100000).bind fun t188 => (if t188 = true then ((impl_within.f a1_3 1 10000).bind fun t189 => (impl_Carts_hold.j0 k (!t189) a0_0 a0_1 a0_2 l0_3 a1_0 a1_1 a1_2 a1_3)) else (impl_Carts_hold.j0 k true a0_0 a0_1 a0_2 l0_3 a1_0 a1_1 a1_2 a1_3))) else (impl_Carts_hold.j0 k true a0_0 a0_1 a0_2 l0_3 a1_0 a1_1 a1_2 a1_3)) = some (r1, r2, r3, r4, r5) := H
  have A5 := za A50
  clear A50
  by_cases c6 : t187 = true
  rotate_left
  ·replace c6 := Bool.eq_false_iff.mpr c6
   subst c6
   have H1 : (impl_Carts_hold.j0 k true a0_0 a0_1 a0_2 l0_3 a1_0 a1_1 a1_2 a1_3) = some (r1, r2, r3, r4, r5) := by rw [if_neg (show ¬ (false = true) by decide)] at H; exact H
   clear H
   have H := H1
   clear H1
   have H' := za H
   clear H
   have hnb14 := NB186_0.out
   have hnc14 := NB0_186.out
   obtain ⟨hcz15_0, hcz15_1, hcz15_2, hcz15_3, hfz15_0, hfz15_1, hfz15_2, hfz15_3⟩ := zB4 BK186.out
   go_wp2_with (first | ((with_reducible refine gate_callee (f := 23) rfl ?_); refine goesL_ (some 8) rfl rfl Try.func23 zG63 rfl #[.int .i64 a1_1, .int .i64 1, .int .i64 1000000] rfl zG54 ?_; (with_reducible refine (impl_within.calls a1_1 1 1000000 false _ A5.out).mono ?_); rintro e w' ⟨rfl, ⟨nd, rfl⟩⟩; refine ⟨_, rfl, ?_⟩))
   go_meet
   case rel => exact ⟨_, (true), zK71, H', ⟨zH38⟩, ⟨zH34⟩, ⟨zH32⟩, ⟨zH31⟩, ⟨zH11⟩, ⟨zH20⟩⟩
  subst c6
  have H1 : ((impl_within.f a1_2 1 100000).bind fun t188 => (if t188 = true then ((impl_within.f a1_3 1 10000).bind fun t189 => (impl_Carts_hold.j0 k (!t189) a0_0 a0_1 a0_2 l0_3 a1_0 a1_1 a1_2 a1_3)) else (impl_Carts_hold.j0 k true a0_0 a0_1 a0_2 l0_3 a1_0 a1_1 a1_2 a1_3))) = some (r1, r2, r3, r4, r5) := by rw [if_pos rfl] at H; exact H
  clear H
  have H := H1
  clear H1
  replace H := Option.bind_eq_some_iff.mp H
  obtain ⟨t188, A70, H⟩ := H
  replace H : (if t188 = true then ((impl_within.f a1_3 1 10000).bind fun t189 => (impl_Carts_hold.j0 k (!t189) a0_0 a0_1 a0_2 l0_3 a1_0 a1_1 a1_2 a1_3)) else (impl_Carts_hold.j0 k true a0_0 a0_1 a0_2 l0_3 a1_0 a1_1 a1_2 a1_3)) = some (r1, r2, r3, r4, r5) := H
  have A7 := za A70
  clear A70
  by_cases c8 : t188 = true
  rotate_left
  ·replace c8 := Bool.eq_false_iff.mpr c8
   subst c8
   have H1 : (impl_Carts_hold.j0 k true a0_0 a0_1 a0_2 l0_3 a1_0 a1_1 a1_2 a1_3) = some (r1, r2, r3, r4, r5) := by rw [if_neg (show ¬ (false = true) by decide)] at H; exact H
   clear H
   have H := H1
   clear H1
   have H' := za H
   clear H
   have hnb12 := NB186_0.out
   have hnc12 := NB0_186.out
   obtain ⟨hcz13_0, hcz13_1, hcz13_2, hcz13_3, hfz13_0, hfz13_1, hfz13_2, hfz13_3⟩ := zB4 BK186.out
   go_wp2_with (first | ((with_reducible refine gate_callee (f := 23) rfl ?_); refine goesL_ (some 8) rfl rfl Try.func23 zG63 rfl #[.int .i64 a1_1, .int .i64 1, .int .i64 1000000] rfl zG54 ?_; (with_reducible refine (impl_within.calls a1_1 1 1000000 true _ A5.out).mono ?_); rintro e w' ⟨rfl, ⟨nd, rfl⟩⟩; refine ⟨_, rfl, ?_⟩) | (go_at_call 23; (with_reducible refine (impl_within.calls a1_2 1 100000 false _ A7.out).mono ?_); rintro e w' ⟨rfl, ⟨nd, rfl⟩⟩))
   go_meet
   case rel => exact ⟨_, (true), zK71, H', ⟨zH38⟩, ⟨zH34⟩, ⟨zH32⟩, ⟨zH31⟩, ⟨zH11⟩, ⟨zH20⟩⟩
  subst c8
  have H1 : ((impl_within.f a1_3 1 10000).bind fun t189 => (impl_Carts_hold.j0 k (!t189) a0_0 a0_1 a0_2 l0_3 a1_0 a1_1 a1_2 a1_3)) = some (r1, r2, r3, r4, r5) := by rw [if_pos rfl] at H; exact H
  clear H
  have H := H1
  clear H1
  replace H := Option.bind_eq_some_iff.mp H
  obtain ⟨t189, A90, H⟩ := H
  replace H : (impl_Carts_hold.j0 k (!t189) a0_0 a0_1 a0_2 l0_3 a1_0 a1_1 a1_2 a1_3) = some (r1, r2, r3, r4, r5) := H
  have A9 := za A90
  clear A90
  have H' := za H
  clear H
  have hnb10 := NB186_0.out
  have hnc10 := NB0_186.out
  obtain ⟨hcz11_0, hcz11_1, hcz11_2, hcz11_3, hfz11_0, hfz11_1, hfz11_2, hfz11_3⟩ := zB4 BK186.out
  go_wp2_with (first | ((with_reducible refine gate_callee (f := 23) rfl ?_); refine goesL_ (some 8) rfl rfl Try.func23 zG63 rfl #[.int .i64 a1_1, .int .i64 1, .int .i64 1000000] rfl zG54 ?_; (with_reducible refine (impl_within.calls a1_1 1 1000000 true _ A5.out).mono ?_); rintro e w' ⟨rfl, ⟨nd, rfl⟩⟩; refine ⟨_, rfl, ?_⟩) | (go_at_call 23; (with_reducible refine (impl_within.calls a1_2 1 100000 true _ A7.out).mono ?_); rintro e w' ⟨rfl, ⟨nd, rfl⟩⟩) | (go_at_call 23; (with_reducible refine (impl_within.calls a1_3 1 10000 t189 _ A9.out).mono ?_); rintro e w' ⟨rfl, ⟨nd, rfl⟩⟩))
  go_meet
  case rel => exact ⟨_, (!t189), zK71, H', ⟨zH38⟩, ⟨zH34⟩, ⟨zH32⟩, ⟨zH31⟩, ⟨zH11⟩, ⟨zH20⟩⟩
 case rest =>
  clear HC3
  try clear c6
  try clear c8
  try clear hcz11_0
  try clear hcz11_1
  try clear hcz11_2
  try clear hcz11_3
  try clear hcz13_0
  try clear hcz13_1
  try clear hcz13_2
  try clear hcz13_3
  try clear hcz15_0
  try clear hcz15_1
  try clear hcz15_2
  try clear hcz15_3
  try clear hfz11_0
  try clear hfz11_1
  try clear hfz11_2
  try clear hfz11_3
  try clear hfz13_0
  try clear hfz13_1
  try clear hfz13_2
  try clear hfz13_3
  try clear hfz15_0
  try clear hfz15_1
  try clear hfz15_2
  try clear hfz15_3
  obtain ⟨kq, x5_2, rfl, HA, HJ2, HO_1003, BK0, BK186, HK, HB⟩ := hcut
  cases kq with
  | zero => exact absurd HA.out (by simp [impl_Carts_hold.j0])
  | succ kj2 =>
   have H := HA.out
   clear HA
   simp only [impl_Carts_hold.j0] at H
   by_cases c16 : x5_2 = true
   ·subst c16
    have H1 : (some (5, a0_0, a0_1, a0_2, l0_3)) = some (r1, r2, r3, r4, r5) := by rw [if_pos rfl] at H; exact H
    clear H
    have H := H1
    clear H1
    simp only [Option.some.injEq, Prod.mk.injEq] at H
    obtain ⟨rfl, rfl, rfl, rfl, rfl⟩ := H
    go_wp2
    go_ret
    exact zH1
   replace c16 := Bool.eq_false_iff.mpr c16
   subst c16
   have H1 : (if a0_1 < a1_2 then (some (19, a0_0, a0_1, a0_2, l0_3)) else (if l0_3.length < 5864062014805 then (some (0, a0_0, wrap64 (a0_1 - a1_2), a0_2, (l0_3 ++ [(⟨a1_1, a1_2, wrap64 (a0_0 + a1_3)⟩ : S36)]))) else (none))) = some (r1, r2, r3, r4, r5) := by rw [if_neg (show ¬ (false = true) by decide)] at H; exact H
   clear H
   have H := H1
   clear H1
   by_cases c17 : a0_1 < a1_2
   ·rw [if_pos c17] at H
    have c17b0 := decide_eq_true c17
    clear c17
    simp only [Option.some.injEq, Prod.mk.injEq] at H
    obtain ⟨rfl, rfl, rfl, rfl, rfl⟩ := H
    try go_wp2
    obtain ⟨n0_, n1_, n2_, n3_, n4_⟩ := zD5 (zm HO_1003.out) (zj BK0.out) (zj BK186.out) (Kept.drew HK.out) (ze HB.out)
    clear HO_1003 BK0 BK186 HK HB
    have HO_1003 := n0_
    have BK0 := n1_
    have BK186 := n2_
    have HK := n3_
    have HB := n4_
    clear n0_ n1_ n2_ n3_ n4_
    refine start_ (n := 8) (S := fun w' => w'.cell? ⟨gi0, 0, none⟩ = some (.int .i64 a0_0) ∧ w'.cell? ⟨gi0, 1, none⟩ = some (.int .i64 a0_1) ∧ w'.cell? ⟨gi0, 2, none⟩ = some (.int .i64 a0_2) ∧ w'.cell? ⟨gi0, 3, none⟩ = some (u9000_) ∧ w'.cell? ⟨gb186, 0, none⟩ = some (.int .i64 a1_0) ∧ w'.cell? ⟨gb186, 1, none⟩ = some (.int .i64 a1_1) ∧ w'.cell? ⟨gb186, 2, none⟩ = some (.int .i64 a1_2) ∧ w'.cell? ⟨gb186, 3, none⟩ = some (.int .i64 a1_3)) (ds := []) b4A0 zG63 rfl rfl ⟨(zb BK0.out 0).trans rfl, (zb BK0.out 1).trans rfl, (zb BK0.out 2).trans rfl, (zb BK0.out 3).trans rfl, (zb BK186.out 0).trans rfl, (zb BK186.out 1).trans rfl, (zb BK186.out 2).trans rfl, (zb BK186.out 3).trans rfl⟩ (fun hHeld => ?_); refine with_tabW impl_Carts_hold.tab3 impl_Carts_hold.bits3 (fun HT_ HW_ => ?_)
    generalize wc.drew = w18 at HO_1003 BK0 BK186 HK HB hHeld ⊢
    refine zP 0 23 b4A1 HT_ ?_
    refine zP 1 24 b4A2 HT_ ?_
    refine zP 2 25 b4A3 HT_ ?_
    refine zP 4 27 b4A4 HT_ ?_
    refine zQ 3 26 b4A5 HT_ HW_ hHeld ?_
    refine zQ 5 28 #[true, true, true, true, true, true, false, false] HT_ HW_ hHeld ?_
    refine zP 6 29 #[true, true, true, true, true, true, true, false] HT_ ?_
    refine zP 7 22 #[true, true, true, true, true, true, true, true] HT_ ?_
    refine done_ (done_of HT_.out zG63) ?_
    try go_wp2
    go_ret
    exact zH1
   rw [if_neg c17] at H
   have c17b0 := decide_eq_false c17
   clear c17
   by_cases c19 : l0_3.length < 5864062014805
   rotate_left
   ·rw [if_neg c19] at H
    exact absurd H (by simp)

   rw [if_pos c19] at H
   have LMc19 := za c19
   clear c19
   obtain ⟨y190, hy190⟩ : ∃ y_ : List (S36), y_ = (l0_3 ++ [(⟨a1_1, a1_2, wrap64 (a0_0 + a1_3)⟩ : S36)]) := ⟨_, rfl⟩
   replace H : (some (0, a0_0, wrap64 (a0_1 - a1_2), a0_2, y190)) = some (r1, r2, r3, r4, r5) := by first | (rw [hy190]; with_reducible exact H) | (have H2_ := (Option.bind_some _ _).symm.trans H; rw [hy190]; with_reducible exact H2_) | (have H2_ := (Option.bind_some _ _).symm.trans H; with_reducible exact H2_) | with_reducible exact H | (rw [hy190]; exact H) | exact H
   have Ny190 := za hy190
   clear hy190
   simp only [Option.some.injEq, Prod.mk.injEq] at H
   obtain ⟨rfl, rfl, rfl, rfl, rfl⟩ := H
   try go_wp2
   obtain ⟨n0_, n1_, n2_, n3_, n4_⟩ := zD5 (zm HO_1003.out) (zj BK0.out) (zj BK186.out) (Kept.drew HK.out) (ze HB.out)
   clear HO_1003 BK0 BK186 HK HB
   have HO_1003 := n0_
   have BK0 := n1_
   have BK186 := n2_
   have HK := n3_
   have HB := n4_
   clear n0_ n1_ n2_ n3_ n4_
   refine start_ (n := 8) (S := fun w' => w'.cell? ⟨gi0, 0, none⟩ = some (.int .i64 a0_0) ∧ w'.cell? ⟨gi0, 1, none⟩ = some (.int .i64 a0_1) ∧ w'.cell? ⟨gi0, 2, none⟩ = some (.int .i64 a0_2) ∧ w'.cell? ⟨gi0, 3, none⟩ = some (u9000_) ∧ w'.cell? ⟨gb186, 0, none⟩ = some (.int .i64 a1_0) ∧ w'.cell? ⟨gb186, 1, none⟩ = some (.int .i64 a1_1) ∧ w'.cell? ⟨gb186, 2, none⟩ = some (.int .i64 a1_2) ∧ w'.cell? ⟨gb186, 3, none⟩ = some (.int .i64 a1_3)) (ds := []) b4A0 zG63 rfl rfl ⟨(zb BK0.out 0).trans rfl, (zb BK0.out 1).trans rfl, (zb BK0.out 2).trans rfl, (zb BK0.out 3).trans rfl, (zb BK186.out 0).trans rfl, (zb BK186.out 1).trans rfl, (zb BK186.out 2).trans rfl, (zb BK186.out 3).trans rfl⟩ (fun hHeld => ?_); refine with_tabW impl_Carts_hold.tab3 impl_Carts_hold.bits3 (fun HT_ HW_ => ?_)
   generalize wc.drew = w20 at HO_1003 BK0 BK186 HK HB hHeld ⊢
   refine zP 0 23 b4A1 HT_ ?_
   refine zP 1 24 b4A2 HT_ ?_
   refine zP 2 25 b4A3 HT_ ?_
   refine zP 4 27 b4A4 HT_ ?_
   refine zQ 3 26 b4A5 HT_ HW_ hHeld ?_
   refine zQ 5 28 #[true, true, true, true, true, true, false, false] HT_ HW_ hHeld ?_
   refine zP 6 29 #[true, true, true, true, true, true, true, false] HT_ ?_
   refine zP 7 22 #[true, true, true, true, true, true, true, true] HT_ ?_
   refine done_ (done_of HT_.out zG63) ?_
   try go_wp2
   obtain ⟨n0_, n1_, n2_, n3_, n4_⟩ := zD5 (zm HO_1003.out) (zj BK0.out) (zj BK186.out) (Kept.drew HK.out) (ze HB.out)
   clear HO_1003 BK0 BK186 HK HB
   have HO_1003 := n0_
   have BK0 := n1_
   have BK186 := n2_
   have HK := n3_
   have HB := n4_
   clear n0_ n1_ n2_ n3_ n4_
   refine start_ (n := 22) (S := fun w' => w'.cell? ⟨gi0, 0, none⟩ = some (.int .i64 a0_0) ∧ w'.cell? ⟨gi0, 1, none⟩ = some (.int .i64 a0_1) ∧ w'.cell? ⟨gi0, 2, none⟩ = some (.int .i64 a0_2) ∧ w'.cell? ⟨gi0, 3, none⟩ = some (u9000_) ∧ w'.cell? ⟨gb186, 0, none⟩ = some (.int .i64 a1_0) ∧ w'.cell? ⟨gb186, 1, none⟩ = some (.int .i64 a1_1) ∧ w'.cell? ⟨gb186, 2, none⟩ = some (.int .i64 a1_2) ∧ w'.cell? ⟨gb186, 3, none⟩ = some (.int .i64 a1_3)) (ds := [21]) #[false, false, false, false, false, false, false, false, false, false, false, false, false, false, false, false, false, false, false, false, false, false] zG63 rfl rfl ⟨(zb BK0.out 0).trans rfl, (zb BK0.out 1).trans rfl, (zb BK0.out 2).trans rfl, (zb BK0.out 3).trans rfl, (zb BK186.out 0).trans rfl, (zb BK186.out 1).trans rfl, (zb BK186.out 2).trans rfl, (zb BK186.out 3).trans rfl⟩ (fun hHeld => ?_); refine with_tabW impl_Carts_hold.tab5 impl_Carts_hold.bits5 (fun HT_ HW_ => ?_)
   generalize w20.drew = w21 at HO_1003 BK0 BK186 HK HB hHeld ⊢
   refine zP 0 30 #[true, false, false, false, false, false, false, false, false, false, false, false, false, false, false, false, false, false, false, false, false, false] HT_ ?_
   refine zP 1 31 #[true, true, false, false, false, false, false, false, false, false, false, false, false, false, false, false, false, false, false, false, false, false] HT_ ?_
   refine zP 2 32 #[true, true, true, false, false, false, false, false, false, false, false, false, false, false, false, false, false, false, false, false, false, false] HT_ ?_
   refine zP 3 33 #[true, true, true, true, false, false, false, false, false, false, false, false, false, false, false, false, false, false, false, false, false, false] HT_ ?_
   refine zP 5 35 #[true, true, true, true, false, true, false, false, false, false, false, false, false, false, false, false, false, false, false, false, false, false] HT_ ?_
   refine zP 7 37 #[true, true, true, true, false, true, false, true, false, false, false, false, false, false, false, false, false, false, false, false, false, false] HT_ ?_
   refine zP 9 39 #[true, true, true, true, false, true, false, true, false, true, false, false, false, false, false, false, false, false, false, false, false, false] HT_ ?_
   refine zP 10 40 #[true, true, true, true, false, true, false, true, false, true, true, false, false, false, false, false, false, false, false, false, false, false] HT_ ?_
   refine zP 11 41 #[true, true, true, true, false, true, false, true, false, true, true, true, false, false, false, false, false, false, false, false, false, false] HT_ ?_
   refine zP 13 43 #[true, true, true, true, false, true, false, true, false, true, true, true, false, true, false, false, false, false, false, false, false, false] HT_ ?_
   refine zQ 4 34 #[true, true, true, true, true, true, false, true, false, true, true, true, false, true, false, false, false, false, false, false, false, false] HT_ HW_ hHeld ?_
   refine zQ 6 36 #[true, true, true, true, true, true, true, true, false, true, true, true, false, true, false, false, false, false, false, false, false, false] HT_ HW_ hHeld ?_
   refine zQ 8 38 #[true, true, true, true, true, true, true, true, true, true, true, true, false, true, false, false, false, false, false, false, false, false] HT_ HW_ hHeld ?_
   refine zQ 12 42 #[true, true, true, true, true, true, true, true, true, true, true, true, true, true, false, false, false, false, false, false, false, false] HT_ HW_ hHeld ?_
   refine zQ 14 44 #[true, true, true, true, true, true, true, true, true, true, true, true, true, true, true, false, false, false, false, false, false, false] HT_ HW_ hHeld ?_
   refine zP 15 45 #[true, true, true, true, true, true, true, true, true, true, true, true, true, true, true, true, false, false, false, false, false, false] HT_ ?_
   refine zP 16 46 #[true, true, true, true, true, true, true, true, true, true, true, true, true, true, true, true, true, false, false, false, false, false] HT_ ?_
   refine one_ (i := 17) (N := some 47) #[true, true, true, true, true, true, true, true, true, true, true, true, true, true, true, true, true, true, false, false, false, false] rfl rfl (one_of HT_.out zG63) zG64 (fun K hK => ?_)
   refine value_ (w1 := ?_) (v := ?_) (by rfl) rfl ?_ ?_
   rotate_left 2
   ·go_simp
    constructor
    ·rfl
    ·rfl
   refine hK.out _ _ ⟨(zb (zg BK0.out _) 0).trans rfl, (zb (zg BK0.out _) 1).trans rfl, (zb (zg BK0.out _) 2).trans rfl, (zb (zg BK0.out _) 3).trans rfl, (zb (zg BK186.out _) 0).trans rfl, (zb (zg BK186.out _) 1).trans rfl, (zb (zg BK186.out _) 2).trans rfl, (zb (zg BK186.out _) 3).trans rfl⟩ (fun hHeld => ?_)
   clear hK K
   refine norm_ (a' := ?_) ?_ ?_
   rotate_left
   ·show Act.put _ (some 47) _ = _
    simp only [Act.put, List.setIfInBounds_toArray, List.set_cons_zero, List.set_cons_succ, i64_w, i32_w]
    rfl
   refine one_ (i := 18) (N := some 48) #[true, true, true, true, true, true, true, true, true, true, true, true, true, true, true, true, true, true, true, false, false, false] rfl rfl (one_of HT_.out zG63) zG64 (fun K hK => ?_)
   refine Kd.R_append_step k36 (w0 := w0) w0.heap.size (by rfl) (.tmp 34) (.tmp 47) 28 36 (.agg #[(.int .i64 0), (.int .i64 0), (.int .i64 0)]) 24 rfl Try.underlying28 info36 rfl zG64 (by omega) u9000_ l0_3 (⟨a1_1, a1_2, wrap64 (a0_0 + a1_3)⟩ : S36) [.int .i64 a1_1, .int .i64 a1_2, .int .i64 (wrap64 (a0_0 + a1_3))] (fun k_ => (P0_3_ k_ ∨ w.heap.size ≤ k_)) (fun _ => False) rfl rfl ?aP (fun _ hk => hk.elim) ?aF ?aO ?aB ?aS ?aL ?_
   (case aP => exact k36_mkM _ _ _ (⟨a1_1, a1_2, wrap64 (a0_0 + a1_3)⟩ : S36))
   (case aB => exact zK53)
   (case aF => exact (fun k_ hk => (.inr (Nat.le_trans (by first | exact HK.out.1 | exact (show Kept w _ (fun k_ => (P0_3_ k_) ∨ k_ = gi0) from by repeat (first | (with_reducible first | exact HK.out | apply Kept.alloc | apply Kept.drewN | apply Kept.drew | refine Kept.setCell ?_ (.inl (Or.inr rfl)) _ | refine Kept.setCell ?_ (.inr GW186.out) _) | exact HK.out)).1) hk))))
   (case aO => exact (by (with_reducible repeat (first | apply zl | apply zk | apply zm)); exact HO_1003.out))
   (case aS => exact (zs zK53))
   (case aL => have := LMc19.out; omega)
   intro v191 w22 ho hb hg hat
   rw [← Ny190.out] at ho
   obtain ⟨n0_, n1_, n2_, n3_, n4_⟩ := zD5 (zar (g := gi0) (o := .cells #[.int .i64 a0_0, .int .i64 a0_1, .int .i64 a0_2, u9000_] 30 (0, 0)) zK62 hg (zai HO_1003.out BK0.out zG64)) (zar (g := gb186) (o := .cells #[.int .i64 a1_0, .int .i64 a1_1, .int .i64 a1_2, .int .i64 a1_3] 54 (0, 0)) (by (with_reducible repeat (first | refine zh ?_ _ | refine zj ?_ | refine zg ?_ _)); exact BK186.out) hg (zai HO_1003.out BK186.out zG64)) (hb) (Kept.of_grown (S := (fun k_ => (P0_3_ k_) ∨ k_ = gi0)) hg (by repeat (first | (with_reducible first | exact HK.out | apply Kept.alloc | apply Kept.drewN | apply Kept.drew | refine Kept.setCell ?_ (.inl (Or.inr rfl)) _ | refine Kept.setCell ?_ (.inr GW186.out) _) | exact HK.out)) (fun k_ e_ => (Or.imp_left (fun z_ => (Or.inl z_)) ((HO_1003.out.1 k_ e_))))) (ho)
   clear BK0 BK186 HB HK HO_1003
   have BK0 := n0_
   have BK186 := n1_
   have HB := n2_
   have HK := n3_
   have HO192 := n4_
   clear n0_ n1_ n2_ n3_ n4_
   clear ho hb hg hat
   obtain ⟨Ao23, co23, eo23⟩ := zab HO192.out
   (first | subst eo23 | (injection eo23 with f1_ f2_ f3_; have f4_ := f1_.symm; have f5_ := f3_.symm; clear f1_ f2_ f3_; subst f4_; subst f5_))
   refine hK.out _ _ ⟨(zb BK0.out 0).trans rfl, (zb BK0.out 1).trans rfl, (zb BK0.out 2).trans rfl, (zb BK0.out 3).trans rfl, (zb BK186.out 0).trans rfl, (zb BK186.out 1).trans rfl, (zb BK186.out 2).trans rfl, (zb BK186.out 3).trans rfl⟩ (fun hHeld => ?_)
   clear hK K
   refine norm_ (a' := ?_) ?_ ?_
   rotate_left
   ·show Act.put _ (some 48) _ = _
    simp only [Act.put, List.setIfInBounds_toArray, List.set_cons_zero, List.set_cons_succ, i64_w, i32_w]
    rfl
   refine zP 19 49 #[true, true, true, true, true, true, true, true, true, true, true, true, true, true, true, true, true, true, true, true, false, false] HT_ ?_
   refine zP 20 50 #[true, true, true, true, true, true, true, true, true, true, true, true, true, true, true, true, true, true, true, true, true, false] HT_ ?_
   refine last_ (i := 21) (N := none) #[true, true, true, true, true, true, true, true, true, true, true, true, true, true, true, true, true, true, true, true, true, true] rfl rfl (one_of HT_.out zG63) zG64 (fun K hK => ?_)
   have hs24 : w22.cell? ⟨gi0, 3, none⟩ = some (u9000_) := (zb BK0.out 3).trans rfl
   have hfs24 := zd BK0.out 3
   have hns24_1 := NB186_0.out
   have hms24_1 := NB0_186.out
   refine skip_ (w1 := ?_) (by rfl) rfl ?_ ?_
   rotate_left
   ·go_simp
    rfl
   refine hK.out _ _ ?_
   clear hK K
   refine done_ (done_of HT_.out zG63) ?_
   try go_wp2
   have n0_ : Aside0 (Kd.R k36 36 (w22.setCell ⟨gi0, 3, none⟩ (.slice Ao23 y190.length co23)) w0.heap.size (fun k_ => (P0_3_ k_ ∨ w.heap.size ≤ k_)) (.slice Ao23 y190.length co23) y190) := ⟨by (with_reducible repeat (first | apply zl | apply zk | apply zm)); exact zn (zq (p := ⟨gi0, 3, none⟩) (zae HO192.out BK0.out zG64) (fun _ hk => hk.2) (.slice Ao23 y190.length co23)) (fun _ hk => hk.1)⟩
   have n1_ : Aside0 ((w22.setCell ⟨gi0, 3, none⟩ (.slice Ao23 y190.length co23)).heap[gi0]? = some (.cells #[.int .i64 a0_0, .int .i64 a0_1, .int .i64 a0_2, .slice Ao23 y190.length co23] 30 (0, 0))) := ⟨by (with_reducible repeat (first | refine zh ?_ _ | refine zj ?_ | refine zg ?_ _)); refine zr (cs := #[.int .i64 a0_0, .int .i64 a0_1, .int .i64 a0_2, u9000_]) ?_ 3 _ rfl; (with_reducible repeat (first | refine zh ?_ _ | refine zj ?_ | refine zg ?_ _)); exact BK0.out⟩
   have n2_ : Aside0 ((w22.setCell ⟨gi0, 3, none⟩ (.slice Ao23 y190.length co23)).heap[gb186]? = some (.cells #[.int .i64 a1_0, .int .i64 a1_1, .int .i64 a1_2, .int .i64 a1_3] 54 (0, 0))) := ⟨by (with_reducible repeat (first | refine zh ?_ _ | refine zj ?_ | refine zg ?_ _)); refine zak ?_ NB186_0.out _; (with_reducible repeat (first | refine zh ?_ _ | refine zj ?_ | refine zg ?_ _)); exact BK186.out⟩
   have n3_ : Aside0 (Kept w (w22.setCell ⟨gi0, 3, none⟩ (.slice Ao23 y190.length co23)) (fun k_ => (P0_3_ k_) ∨ k_ = gi0)) := ⟨zH11⟩
   have n4_ : Aside0 (Below w0.heap.size w0 (w22.setCell ⟨gi0, 3, none⟩ (.slice Ao23 y190.length co23))) := ⟨zH20⟩
   (try clear HO192)
   (try clear BK0)
   (try clear BK186)
   (try clear HK)
   (try clear HB)
   generalize (w22.setCell ⟨gi0, 3, none⟩ (.slice Ao23 y190.length co23)) = w25 at n0_ n1_ n2_ n3_ n4_ ⊢
   have HO192 := n0_
   have BK0 := n1_
   have BK186 := n2_
   have HK := n3_
   have HB := n4_
   clear n0_ n1_ n2_ n3_ n4_
   obtain ⟨n0_, n1_, n2_, n3_, n4_⟩ := zD5 (zm HO192.out) (zj BK0.out) (zj BK186.out) (Kept.drew HK.out) (ze HB.out)
   clear HO192 BK0 BK186 HK HB
   have HO192 := n0_
   have BK0 := n1_
   have BK186 := n2_
   have HK := n3_
   have HB := n4_
   clear n0_ n1_ n2_ n3_ n4_
   refine start_ (n := 10) (S := fun w' => w'.cell? ⟨gi0, 0, none⟩ = some (.int .i64 a0_0) ∧ w'.cell? ⟨gi0, 1, none⟩ = some (.int .i64 a0_1) ∧ w'.cell? ⟨gi0, 2, none⟩ = some (.int .i64 a0_2) ∧ w'.cell? ⟨gi0, 3, none⟩ = some (.slice Ao23 y190.length co23) ∧ w'.cell? ⟨gb186, 0, none⟩ = some (.int .i64 a1_0) ∧ w'.cell? ⟨gb186, 1, none⟩ = some (.int .i64 a1_1) ∧ w'.cell? ⟨gb186, 2, none⟩ = some (.int .i64 a1_2) ∧ w'.cell? ⟨gb186, 3, none⟩ = some (.int .i64 a1_3)) (ds := [9]) #[false, false, false, false, false, false, false, false, false, false] zG63 rfl rfl ⟨(zb BK0.out 0).trans rfl, (zb BK0.out 1).trans rfl, (zb BK0.out 2).trans rfl, (zb BK0.out 3).trans rfl, (zb BK186.out 0).trans rfl, (zb BK186.out 1).trans rfl, (zb BK186.out 2).trans rfl, (zb BK186.out 3).trans rfl⟩ (fun hHeld => ?_); refine with_tabW impl_Carts_hold.tab6 impl_Carts_hold.bits6 (fun HT_ HW_ => ?_)
   generalize w25.drew = w26 at HO192 BK0 BK186 HK HB hHeld ⊢
   refine zP 0 51 #[true, false, false, false, false, false, false, false, false, false] HT_ ?_
   refine zP 1 52 #[true, true, false, false, false, false, false, false, false, false] HT_ ?_
   refine zP 2 53 #[true, true, true, false, false, false, false, false, false, false] HT_ ?_
   refine zP 4 55 #[true, true, true, false, true, false, false, false, false, false] HT_ ?_
   refine zQ 3 54 #[true, true, true, true, true, false, false, false, false, false] HT_ HW_ hHeld ?_
   refine zQ 5 56 #[true, true, true, true, true, true, false, false, false, false] HT_ HW_ hHeld ?_
   refine zP 6 57 #[true, true, true, true, true, true, true, false, false, false] HT_ ?_
   refine zP 7 58 #[true, true, true, true, true, true, true, true, false, false] HT_ ?_
   refine zP 8 59 #[true, true, true, true, true, true, true, true, true, false] HT_ ?_
   refine last_ (i := 9) (N := none) #[true, true, true, true, true, true, true, true, true, true] rfl rfl (one_of HT_.out zG63) zG64 (fun K hK => ?_)
   have hs27 : w26.cell? ⟨gi0, 1, none⟩ = some (.int .i64 a0_1) := (zb BK0.out 1).trans rfl
   have hfs27 := zd BK0.out 1
   have hns27_1 := NB186_0.out
   have hms27_1 := NB0_186.out
   refine skip_ (w1 := ?_) (by rfl) rfl ?_ ?_
   rotate_left
   ·go_simp
    rfl
   refine hK.out _ _ ?_
   clear hK K
   refine done_ (done_of HT_.out zG63) ?_
   try go_wp2
   go_ret
   exact ⟨_, zH33, by (with_reducible repeat (first | apply zl | apply zk | apply zm)); exact zn (zq (p := ⟨gi0, 1, none⟩) (zae HO192.out BK0.out zG64) (fun _ hk => hk.2) (.int .i64 (wrap64 (a0_1 - a1_2)))) (fun _ hk => hk.1), (by (with_reducible repeat (first | refine zh ?_ _ | refine zj ?_ | refine zg ?_ _)); refine zr (cs := #[.int .i64 a0_0, .int .i64 a0_1, .int .i64 a0_2, .slice Ao23 y190.length co23]) ?_ 1 _ rfl; (with_reducible repeat (first | refine zh ?_ _ | refine zj ?_ | refine zg ?_ _)); exact BK0.out), zH20, zH11⟩
end Go.Proofs.Ytdohpbhljifodaa.D
