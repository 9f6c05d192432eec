-- squeezed
-- made by pp.py (wip/tools) out of the translation; Lean checks it
import Derived.Test.YtojncbpeeboooaaX0
import Derived.Test.YtojncbpeeboooaaX5
namespace Go.Proofs.Ytojncbpeeboooaa.X
open Go.RowKit Go.Proofs.YtojncbpeeboooaaW.PrintWords Go.Proofs.YtojncbpeeboooaaW.PrintLast Go.Proofs.YtojncbpeeboooaaW.PrintMore
attribute [local go_sem] max2_int min2_int max_two min_two max_three min_three max_four min_four   -- for this text's walks alone
set_option linter.unusedVariables false
set_option linter.unusedSimpArgs false

abbrev b6A0 := zM 10 0
abbrev b6A1 := zM 10 1
abbrev b6A2 := zM 10 127
abbrev b6A3 := zM 10 255
abbrev b6A4 := zM 10 511
abbrev b6A5 := zM 10 1023
abbrev b6A6 := zM 10 3
abbrev b6A7 := zM 10 7
abbrev b6A8 := zM 10 23
abbrev b6A9 := zM 10 55
abbrev b6A10 := zM 10 119
/-! ### impl_sourceOf: function 81 -/
def impl_sourceOf.l0 : Nat → List (S58) → List (S124) → List Int → List Int → Int → Int → List Int → Int → Int → Option (List Int × Int × Int × Bool)
 | 0, _, _, _, _, _, _, _, _, _ => none
 | k + 1, x0, x1, x2, x14, x15, x16, x237000, x237001, x237002 => if x16 < x15 then (if 0 ≤ x16 then (if x16 < (x14.length : Int) then (if 0 ≤ (rd x14 x16) then (if (rd x14 x16) < (x0.length : Int) then (if x16 < (x1.length : Int) then ((impl_Source_gives.f k ((rd_T58 x0 (rd x14 x16)).f0) ((rd_T58 x0 (rd x14 x16)).f1) ((rd_T58 x0 (rd x14 x16)).f2) ((rd_T124 x1 x16).f0) ((rd_T124 x1 x16).f1)).bind fun t240 => (if t240 = true then (if x16 ≤ (x2.length : Int) then ((slices_Contains_int_int.f k (x2.take (x16 : Int).toNat) (rd x14 x16)).bind fun t242 => (if t242 = true then (impl_sourceOf.l0 k x0 x1 x2 x14 x15 (wrap64 (x16 + 1)) x237000 x237001 x237002) else (impl_sourceOf.l0 k x0 x1 x2 x14 x15 (wrap64 (x16 + 1)) x237000 (wrap64 (x237001 + 1)) (wrap64 (x237002 + ((rd_T58 x0 (rd x14 x16)).f1)))))) else (none)) else (some (([] : List Int), 0, 0, false)))) else (none)) else (none)) else (none)) else (none)) else (none)) else (some (x237000, x237001, x237002, true))
def impl_sourceOf.f (k : Nat) (l0 : List (S58)) (l1 : List (S124)) (l2 : List Int) : Option (List Int × Int × Int × Bool) := (slices_Clone_int_int.f l2).bind fun t233 => (impl_sourceOf.l0 k l0 l1 l2 l2 (l2.length : Int) 0 t233 0 0)
theorem impl_sourceOf.mono_l : ∀ k, (∀ y0 y1 y2 y3 y4 y5 y6 y7 y8, LeO (impl_sourceOf.l0 k y0 y1 y2 y3 y4 y5 y6 y7 y8) (impl_sourceOf.l0 (k + 1) y0 y1 y2 y3 y4 y5 y6 y7 y8))
 | 0 => fun _ _ _ _ _ _ _ _ _ r h => by simp [impl_sourceOf.l0] at h
 | k + 1 => by
  have ih0 := impl_sourceOf.mono_l k
  ·intro y0 y1 y2 y3 y4 y5 y6 y7 y8
   unfold impl_sourceOf.l0
   repeat' first
   | (with_reducible exact ih0 _ _ _ _ _ _ _ _ _)
   | (with_reducible exact impl_Source_gives.mono _ _ _ _ _ _)
   | (with_reducible exact slices_Contains_int_int.mono _ _ _)
   | (with_reducible exact LeO.refl _)
   | (with_reducible exact LeO.none _)
   | (with_reducible refine LeO.ite ?_ ?_)
   | (with_reducible refine LeO.bind ?_ (fun _ => ?_))
   | exact ih0 _ _ _ _ _ _ _ _ _
   | exact impl_Source_gives.mono _ _ _ _ _ _
   | exact slices_Contains_int_int.mono _ _ _
   | exact LeO.none _
   | refine LeO.ite ?_ ?_
   | refine LeO.bind ?_ (fun _ => ?_)
theorem impl_sourceOf.mono : ∀ a0 a1 a2 k, LeO (impl_sourceOf.f k a0 a1 a2) (impl_sourceOf.f (k + 1) a0 a1 a2) := by
 intro a0 a1 a2 k
 have ih0 := impl_sourceOf.mono_l k
 unfold impl_sourceOf.f
 repeat' first
   | (with_reducible exact ih0 _ _ _ _ _ _ _ _ _)
   | (with_reducible exact impl_Source_gives.mono _ _ _ _ _ _)
   | (with_reducible exact slices_Contains_int_int.mono _ _ _)
   | (with_reducible exact LeO.refl _)
   | (with_reducible exact LeO.none _)
   | (with_reducible refine LeO.ite ?_ ?_)
   | (with_reducible refine LeO.bind ?_ (fun _ => ?_))
   | exact ih0 _ _ _ _ _ _ _ _ _
   | exact impl_Source_gives.mono _ _ _ _ _ _
   | exact slices_Contains_int_int.mono _ _ _
   | exact LeO.none _
   | refine LeO.ite ?_ ?_
   | refine LeO.bind ?_ (fun _ => ?_)
def impl_sourceOf.T5 : Bool × List (List Nat × List Nat) := (true, [([], []), ([], []), ([0, 1], [0, 1]), ([2], [2]), ([], []), ([], []), ([4, 5], [4, 5]), ([6], [6]), ([3, 7], [3, 7]), ([8], [8])])
def impl_sourceOf.B5 : List Nat := [0, 0, 3, 7, 0, 0, 48, 112, 255, 511]
theorem impl_sourceOf.tab5 : rtab .any (opsOf Try.f81 5) = impl_sourceOf.T5 := by kernel_rfl
theorem impl_sourceOf.bits5 : waitsOk impl_sourceOf.T5.2 impl_sourceOf.B5 = true := by kernel_rfl
def impl_sourceOf.T9 : Bool × List (List Nat × List Nat) := (true, [([], []), ([0], [0]), ([], []), ([], []), ([2, 3], [2, 3]), ([4], [4]), ([5], [5]), ([1, 6], [1, 6]), ([0, 1, 2, 3, 4, 5, 6, 7], []), ([8, 7, 0, 1, 2, 3, 4, 5, 6, 7], [7, 8])])
def impl_sourceOf.B9 : List Nat := [0, 1, 0, 0, 12, 28, 60, 127, 255, 511]
theorem impl_sourceOf.tab9 : rtab .any (opsOf Try.f81 9) = impl_sourceOf.T9 := by kernel_rfl
theorem impl_sourceOf.bits9 : waitsOk impl_sourceOf.T9.2 impl_sourceOf.B9 = true := by kernel_rfl
set_option maxHeartbeats 64000000 in
set_option maxRecDepth 100000 in
theorem impl_sourceOf.calls (k : Nat) (A0 : Option Addr) (c0 : Nat) (l0 : List (S58)) (A1 : Option Addr) (c1 : Nat) (l1 : List (S124)) (A2 : Option Addr) (c2 : Nat) (l2 : List Int) (r1 : List Int) (r2 : Int) (r3 : Int) (r4 : Bool) (w : World) (hr0 : Kd.C k58 w A0 l0.length l0) (hc0 : l0.length ≤ c0) (hr1 : Kd.C k124 w A1 l1.length l1) (hc1 : l1.length ≤ c1) (hr2 : Kd.C (Kd.int .i64) w A2 l2.length l2) (hc2 : l2.length ≤ c2) (h : impl_sourceOf.f k l0 l1 l2 = some (r1, r2, r3, r4)) :
  Calls Try.prog 81 #[.slice A0 l0.length c0, .slice A1 l1.length c1, .slice A2 l2.length c2] w fun e w' => ∃ v0_ : Value, e = .returned (.tuple #[.agg #[v0_, .int .i64 r2, .int .i64 r3], .bool r4]) ∧ Kd.R (Kd.int .i64) 3 w' w.heap.size (fun _ => True) v0_ r1 ∧ Below w.heap.size w w' := by
 have hu52 := Try.underlying52
 have hu58 := Try.underlying58
 have hu124 := Try.underlying124
 obtain ⟨HR0, HC0, HR1, HC1, HR2, HC2, HB⟩ := zD7 hr0 hc0 hr1 hc1 hr2 hc2 (Below.refl w.heap.size w)
 clear hr0 hc0 hr1 hc1 hr2 hc2
 have H : ((slices_Clone_int_int.f l2).bind fun t233 => (impl_sourceOf.l0 k l0 l1 l2 l2 (l2.length : Int) 0 t233 0 0)) = some (r1, r2, r3, r4) := h
 clear h
 replace H := Option.bind_eq_some_iff.mp H
 obtain ⟨t233, A40, H⟩ := H
 replace H : (impl_sourceOf.l0 k l0 l1 l2 l2 (l2.length : Int) 0 t233 0 0) = some (r1, r2, r3, r4) := H
 have A4 := za A40
 clear A40
 have H' := za H
 clear H
 go_enter Try.func81, Try.ntmps81
 go_wp2_with (first | ((with_reducible refine gate_dst (N := 6) rfl ?_); refine box_event ?hg (N := 6) ?hd (cs := #[.slice none 0 0, .int .i64 0, .int .i64 0]) (t := 52) ?hr ?_; (case hd => rfl); (case hg => rfl); (case hr => exact zH119); intro gb232 hg w5 hbox hb; have n_ := zA_ (za (zu zG102 hb)) (zA_ (za (hbox)) (zA_ (zN1 w.heap.size hg (zq zG102)) (zN1 w.heap.size hg (zq zG102)))); clear HB; obtain ⟨HB, BK232, GW232, GE232⟩ := n_; clear hb hbox hg) | ((with_reducible refine gate_callee (f := 84) rfl ?_); refine goesL_ (some 12) rfl rfl Try.func84 zG128 rfl #[.slice A2 l2.length c2] rfl zG97 ?_; (with_reducible refine (slices_Clone_int_int.calls _ _ l2 t233 _ ?side1 ?side2 A4.out).mono ?_); (case side1 => exact zH65); (case side2 => exact HC2.out); rintro e w6 ⟨v234, rfl, ho0, hb⟩; refine ⟨_, rfl, ?_⟩; have n_ := zA_ (za (zam ho0 (zq zK212))) (zA_ (za (zp (g := gb232) (o := .cells #[.slice none 0 0, .int .i64 0, .int .i64 0] 52 (0, 0)) zK228 hb)) (za (zu zK212 hb))); clear BK232 HB; obtain ⟨HO235, BK232, HB⟩ := n_; (try clear hb); (try clear ho0); obtain ⟨Ao7, co7, eo7⟩ := zan HO235.out; subst eo7) | ((with_reducible refine gate_dst (N := 8) rfl ?_); refine box_event ?hg (N := 8) ?hd (cs := #[.slice none 0 0, .int .i64 0, .int .i64 0]) (t := 52) ?hr ?_; (case hd => rfl); (case hg => rfl); (case hr => exact zH119); intro gb236 hg w8 hbox hb; have n_ := zA_ (za (zv (by (with_reducible repeat (first | apply zj | apply zk | apply zl)); exact HO235.out) hb)) (zA_ (za (zp (g := gb232) (o := .cells #[.slice none 0 0, .int .i64 0, .int .i64 0] 52 (0, 0)) zK228 hb)) (zA_ (za (zu zK212 hb)) (zA_ (za (hbox)) (zA_ (zN1 w.heap.size hg (zq zK212)) (zA_ (zN1 w.heap.size hg (zq zK212)) (zN2 hg (zz (g := gb232) (o := .cells #[.slice none 0 0, .int .i64 0, .int .i64 0] 52 (0, 0)) zK228))))))); clear HO235 BK232 HB; obtain ⟨HO235, BK232, HB, BK236, GW236, GE236, NB232_236, NB236_232⟩ := n_; clear hb hbox hg; have hnb9 := NB236_232.out; have hnc9 := NB232_236.out; obtain ⟨hcz10_0, hcz10_1, hcz10_2, hfz10_0, hfz10_1, hfz10_2⟩ := zB3 BK236.out))
 go_loopg [16] k (fun kq v16 w' => ∃ (x16_1 : Int) (x233001_1 : Int) (x233002_1 : Int) (x237001_1 : Int) (x237002_1 : Int), v16 = .int .i64 x16_1 ∧ Aside0 (impl_sourceOf.l0 kq l0 l1 l2 l2 (l2.length : Int) x16_1 t233 x237001_1 x237002_1 = some (r1, r2, r3, r4)) ∧ Aside0 (kq ≤ k) ∧ Aside0 (Kd.R (Kd.int .i64) 3 w' w.heap.size (fun _ => True) (.slice Ao7 t233.length co7) t233) ∧ Aside0 (w'.heap[gb232]? = some (.cells #[(.slice none 0 0), .int .i64 x233001_1, .int .i64 x233002_1] 52 (0, 0))) ∧ Aside0 (w'.heap[gb236]? = some (.cells #[(.slice Ao7 t233.length co7), .int .i64 x237001_1, .int .i64 x237002_1] 52 (0, 0))) ∧ Aside0 (Below w.heap.size w w'))
 case atStart => exact ⟨(0), (0), (0), (0), (0), zG127, H', ⟨Nat.le_refl _⟩, ⟨by (with_reducible repeat (first | apply zj | apply zk | apply zl)); exact zs (zo (p := ⟨gb236, 2, none⟩) (zo (p := ⟨gb236, 1, none⟩) (zo (p := ⟨gb236, 0, none⟩) (zt HO235.out BK236.out zG129) (fun _ hk => hk.2) (.slice Ao7 t233.length co7)) (fun _ hk => hk.2) (.int .i64 0)) (fun _ hk => hk.2) (.int .i64 0)) (fun _ hk => trivial)⟩, ⟨by (with_reducible repeat (first | refine zc ?_ _ | refine zd ?_ | refine zb ?_ _)); refine zr ?_ NB232_236.out _; (with_reducible repeat (first | refine zc ?_ _ | refine zd ?_ | refine zb ?_ _)); refine zr ?_ NB232_236.out _; (with_reducible repeat (first | refine zc ?_ _ | refine zd ?_ | refine zb ?_ _)); refine zr ?_ NB232_236.out _; (with_reducible repeat (first | refine zc ?_ _ | refine zd ?_ | refine zb ?_ _)); exact BK232.out⟩, ⟨by (with_reducible repeat (first | refine zc ?_ _ | refine zd ?_ | refine zb ?_ _)); refine zw (cs := #[.slice Ao7 t233.length co7, .int .i64 0, .int .i64 0]) ?_ 2 _ rfl; (with_reducible repeat (first | refine zc ?_ _ | refine zd ?_ | refine zb ?_ _)); refine zw (cs := #[.slice Ao7 t233.length co7, .int .i64 0, .int .i64 0]) ?_ 1 _ rfl; (with_reducible repeat (first | refine zc ?_ _ | refine zd ?_ | refine zb ?_ _)); refine zw (cs := #[.slice none 0 0, .int .i64 0, .int .i64 0]) ?_ 0 _ rfl; (with_reducible repeat (first | refine zc ?_ _ | refine zd ?_ | refine zb ?_ _)); exact BK236.out⟩, ⟨zH53⟩⟩
 case round =>
  clear H'
  try clear c1
  try clear c2
  try clear hcz10_0
  try clear hcz10_1
  try clear hcz10_2
  try clear hfz10_0
  try clear hfz10_1
  try clear hfz10_2
  obtain ⟨x16_1, x233001_1, x233002_1, x237001_1, x237002_1, rfl, HA, HK1, HO_237000, BK232, BK236, HB⟩ := hrel
  cases gk with
  | zero => exact absurd HA.out (by simp [impl_sourceOf.l0])
  | succ k1 =>
   have H := HA.out
   clear HA
   simp only [impl_sourceOf.l0] at H
   by_cases c11 : x16_1 < (l2.length : Int)
   rotate_left
   ·rw [if_neg c11] at H
    have c11b0 := decide_eq_false c11
    clear c11
    simp only [Option.some.injEq, Prod.mk.injEq] at H
    obtain ⟨rfl, rfl, rfl, rfl⟩ := H
    have hnb40 := NB236_232.out
    have hnc40 := NB232_236.out
    obtain ⟨hcz41_0, hcz41_1, hcz41_2, hfz41_0, hfz41_1, hfz41_2⟩ := zB3 BK236.out
    obtain ⟨hcz42_0, hcz42_1, hcz42_2, hfz42_0, hfz42_1, hfz42_2⟩ := zB3 BK232.out
    go_wp2
    refine bodyPost_ret (results_ct rfl _ _ gb232 52 #[.slice Ao7 t233.length co7, .int .i64 x237001_1, .int .i64 x237002_1] (0, 0) _ rfl (by (with_reducible repeat (first | refine zc ?_ _ | refine zd ?_ | refine zb ?_ _)); refine zw (cs := #[.slice Ao7 t233.length co7, .int .i64 x237001_1, .int .i64 x233002_1]) ?_ 2 _ rfl; (with_reducible repeat (first | refine zc ?_ _ | refine zd ?_ | refine zb ?_ _)); refine zw (cs := #[.slice Ao7 t233.length co7, .int .i64 x233001_1, .int .i64 x233002_1]) ?_ 1 _ rfl; (with_reducible repeat (first | refine zc ?_ _ | refine zd ?_ | refine zb ?_ _)); refine zw (cs := #[.slice none 0 0, .int .i64 x233001_1, .int .i64 x233002_1]) ?_ 0 _ rfl; (with_reducible repeat (first | refine zc ?_ _ | refine zd ?_ | refine zb ?_ _)); exact BK232.out) Try.underlying52 rfl zG128) rfl ?_
    exact ⟨_, zH111, by (with_reducible repeat (first | apply zj | apply zk | apply zl)); exact zs (zo (p := ⟨gb232, 2, none⟩) (zo (p := ⟨gb232, 1, none⟩) (zo (p := ⟨gb232, 0, none⟩) (zt HO_237000.out BK232.out zG129) (fun _ hk => hk.2) (.slice Ao7 t233.length co7)) (fun _ hk => hk.2) (.int .i64 x237001_1)) (fun _ hk => hk.2) (.int .i64 x237002_1)) (fun _ hk => trivial), zH53⟩

   rw [if_pos c11] at H
   have c11b0 := decide_eq_true c11
   clear c11
   by_cases c12 : 0 ≤ x16_1
   rotate_left
   ·rw [if_neg c12] at H
    exact absurd H (by simp)
   rw [if_pos c12] at H
   have c12b0 := decide_eq_true c12
   clear c12
   by_cases c13 : x16_1 < (l2.length : Int)
   rotate_left
   ·rw [if_neg c13] at H
    exact absurd H (by simp)
   rw [if_pos c13] at H
   have c13b0 := decide_eq_true c13
   clear c13
   by_cases c14 : 0 ≤ (rd l2 x16_1)
   rotate_left
   ·rw [if_neg c14] at H
    exact absurd H (by simp)
   rw [if_pos c14] at H
   have c14b0 := decide_eq_true c14
   clear c14
   by_cases c15 : (rd l2 x16_1) < (l0.length : Int)
   rotate_left
   ·rw [if_neg c15] at H
    exact absurd H (by simp)
   rw [if_pos c15] at H
   have c15b0 := decide_eq_true c15
   clear c15
   by_cases c16 : x16_1 < (l1.length : Int)
   rotate_left
   ·rw [if_neg c16] at H
    exact absurd H (by simp)
   rw [if_pos c16] at H
   have c16b0 := decide_eq_true c16
   clear c16
   replace H := Option.bind_eq_some_iff.mp H
   obtain ⟨t240, A170, H⟩ := H
   replace H : (if t240 = true then (if x16_1 ≤ (l2.length : Int) then ((slices_Contains_int_int.f k1 (l2.take (x16_1 : Int).toNat) (rd l2 x16_1)).bind fun t242 => (if t242 = true then (impl_sourceOf.l0 k1 l0 l1 l2 l2 (l2.length : Int) (wrap64 (x16_1 + 1)) t233 x237001_1 x237002_1) else (impl_sourceOf.l0 k1 l0 l1 l2 l2 (l2.length : Int) (wrap64 (x16_1 + 1)) t233 (wrap64 (x237001_1 + 1)) (wrap64 (x237002_1 + ((rd_T58 l0 (rd l2 x16_1)).f1)))))) else (none)) else (some (([] : List Int), 0, 0, false))) = some (r1, r2, r3, r4) := H
   have A17 := za A170
   clear A170
   by_cases c18 : t240 = true
   rotate_left
   ·replace c18 := Bool.eq_false_iff.mpr c18
    subst c18
    have H1 : (some (([] : List Int), 0, 0, false)) = some (r1, r2, r3, r4) := by rw [if_neg (show ¬ (false = true) by decide)] at H; exact H
    clear H
    have H := H1
    clear H1
    simp only [Option.some.injEq, Prod.mk.injEq] at H
    obtain ⟨rfl, rfl, rfl, rfl⟩ := H
    have p237 : 0 ≤ (x16_1 : Int) := zO
    have q237 : x16_1 < (l2.length : Int) := zO
    obtain ⟨ad237, e237, hx237_0⟩ := zbc HR2.out x16_1 p237 q237
    cases e237
    replace hx237_0 := (HB.out.cell (zn w _ hx237_0)).trans hx237_0
    replace p237 := eq_true p237
    replace q237 := eq_true q237
    try go_wp2
    obtain ⟨n0_, n1_, n2_, n3_⟩ := zD4 (zl HO_237000.out) (zd BK232.out) (zd BK236.out) (zg HB.out)
    clear HO_237000 BK232 BK236 HB
    have HO_237000 := n0_
    have BK232 := n1_
    have BK236 := n2_
    have HB := n3_
    clear n0_ n1_ n2_ n3_
    have p238 : 0 ≤ ((rd l2 x16_1) : Int) := zO
    have q238 : (rd l2 x16_1) < (l0.length : Int) := zO
    obtain ⟨ad238, A238_2, c238_2, e238, hx238_0, hx238_1, hx238_2, hl238_2, hi238_2⟩ := at_T58 HR0.out (rd l2 x16_1) p238 q238
    have hw238_2 := hx238_2
    have hw238_1 := hx238_1
    have hw238_0 := hx238_0
    cases e238
    replace hx238_0 := (HB.out.cell (zn w _ hx238_0)).trans hx238_0
    replace hx238_1 := (HB.out.cell (zn w _ hx238_1)).trans hx238_1
    replace hx238_2 := (HB.out.cell (zn w _ hx238_2)).trans hx238_2
    obtain ⟨HR238_2, HC238_2⟩ := zD2 hi238_2 hl238_2
    clear hi238_2 hl238_2
    replace p238 := eq_true p238
    replace q238 := eq_true q238
    have p239 : 0 ≤ (x16_1 : Int) := zO
    have q239 : x16_1 < (l1.length : Int) := zO
    obtain ⟨ad239, e239, hx239_0, hx239_1⟩ := at_T124 HR1.out x16_1 p239 q239
    have hw239_1 := hx239_1
    have hw239_0 := hx239_0
    cases e239
    replace hx239_0 := (HB.out.cell (zn w _ hx239_0)).trans hx239_0
    replace hx239_1 := (HB.out.cell (zn w _ hx239_1)).trans hx239_1
    replace p239 := eq_true p239
    replace q239 := eq_true q239
    refine start_ (n := 10) (S := fun w' => w'.cell? (ad238.add (((rd l2 x16_1)).toNat * 3)) = some (.string ((rd_T58 l0 (rd l2 x16_1)).f0)) ∧ w'.cell? ⟨(ad238.add (((rd l2 x16_1)).toNat * 3)).block, (ad238.add (((rd l2 x16_1)).toNat * 3)).off + 1, none⟩ = some (.int .i64 ((rd_T58 l0 (rd l2 x16_1)).f1)) ∧ w'.cell? ⟨(ad238.add (((rd l2 x16_1)).toNat * 3)).block, (ad238.add (((rd l2 x16_1)).toNat * 3)).off + 2, none⟩ = some (.slice A238_2 ((rd_T58 l0 (rd l2 x16_1)).f2).length c238_2) ∧ w'.cell? (ad239.add ((x16_1).toNat * 2)) = some (.string ((rd_T124 l1 x16_1).f0)) ∧ w'.cell? ⟨(ad239.add ((x16_1).toNat * 2)).block, (ad239.add ((x16_1).toNat * 2)).off + 1, none⟩ = some (.int .i64 ((rd_T124 l1 x16_1).f1))) (ds := []) b6A0 zG128 rfl rfl ⟨((HB.out.cell (zn w _ hw238_0)).trans hw238_0), ((HB.out.cell (zn w _ hw238_1)).trans hw238_1), ((HB.out.cell (zn w _ hw238_2)).trans hw238_2), ((HB.out.cell (zn w _ hw239_0)).trans hw239_0), ((HB.out.cell (zn w _ hw239_1)).trans hw239_1)⟩ (fun hHeld => ?_); refine with_tabW impl_sourceOf.tab5 impl_sourceOf.bits5 (fun HT_ HW_ => ?_)
    generalize wr.drew = w36 at HO_237000 BK232 BK236 HB HR238_2 hx238_0 hx238_1 hx238_2 hx239_0 hx239_1 hHeld ⊢
    refine zP 0 21 b6A1 HT_ ?_
    refine zP 1 22 b6A6 HT_ ?_
    refine zP 2 23 b6A7 HT_ ?_
    refine zP 4 25 b6A8 HT_ ?_
    refine zP 5 26 b6A9 HT_ ?_
    refine zP 6 27 b6A10 HT_ ?_
    refine zQ 3 24 b6A2 HT_ HW_ hHeld ?_
    refine zQ 7 28 b6A3 HT_ HW_ hHeld ?_
    refine one_ (i := 8) (N := some 29) b6A4 rfl rfl (one_of HT_.out zG128) zG129 (fun K hK => ?_)
    refine goes_ Try.func83 zG128 rfl #[.agg #[.string ((rd_T58 l0 (rd l2 x16_1)).f0), .int .i64 ((rd_T58 l0 (rd l2 x16_1)).f1), .slice A238_2 ((rd_T58 l0 (rd l2 x16_1)).f2).length c238_2], .agg #[.string ((rd_T124 l1 x16_1).f0), .int .i64 ((rd_T124 l1 x16_1).f1)]] (by rfl) rfl rfl zG97 ?_
    with_reducible refine (impl_Source_gives.calls k1 ((rd_T58 l0 (rd l2 x16_1)).f0) ((rd_T58 l0 (rd l2 x16_1)).f1) _ _ ((rd_T58 l0 (rd l2 x16_1)).f2) ((rd_T124 l1 x16_1).f0) ((rd_T124 l1 x16_1).f1) false _ ?side1 ?side2 A17.out).mono ?_
    (case side1 => exact zH61)
    (case side2 => exact HC238_2.out)
    rintro e w37 ⟨rfl, hb⟩
    refine ⟨_, rfl, ?_⟩
    obtain ⟨n0_, n1_, n2_, n3_⟩ := zD4 (zv zK237 hb) (zp (g := gb232) (o := .cells #[.slice none 0 0, .int .i64 x233001_1, .int .i64 x233002_1] 52 (0, 0)) zK228 hb) (zp (g := gb236) (o := .cells #[.slice Ao7 t233.length co7, .int .i64 x237001_1, .int .i64 x237002_1] 52 (0, 0)) zK229 hb) (zu zK207 hb)
    clear HO_237000 BK232 BK236 HB
    have HO_237000 := n0_
    have BK232 := n1_
    have BK236 := n2_
    have HB := n3_
    clear n0_ n1_ n2_ n3_
    (try clear hb)
    (try clear hb2)
    (try clear hk)
    (try clear hi)
    refine hK.out _ _ ⟨((HB.out.cell (zn w _ hw238_0)).trans hw238_0), ((HB.out.cell (zn w _ hw238_1)).trans hw238_1), ((HB.out.cell (zn w _ hw238_2)).trans hw238_2), ((HB.out.cell (zn w _ hw239_0)).trans hw239_0), ((HB.out.cell (zn w _ hw239_1)).trans hw239_1)⟩ (fun hHeld => ?_)
    clear hK K
    refine norm_ (a' := ?_) ?_ ?_
    rotate_left
    ·show Act.put _ (some 29) _ = _
     simp only [Act.put, List.setIfInBounds_toArray, List.set_cons_zero, List.set_cons_succ, i64_w, i32_w]
     rfl
    refine zP 9 30 b6A5 HT_ ?_
    refine done_ (done_of HT_.out zG128) ?_
    have hnb38 := NB232_236.out
    have hnc38 := NB236_232.out
    obtain ⟨hcz39_0, hcz39_1, hcz39_2, hfz39_0, hfz39_1, hfz39_2⟩ := zB3 BK232.out
    try go_wp2
    refine bodyPost_ret (results_ct rfl _ _ gb232 52 #[.slice none 0 0, .int .i64 0, .int .i64 0] (0, 0) _ rfl (by (with_reducible repeat (first | refine zc ?_ _ | refine zd ?_ | refine zb ?_ _)); refine zw (cs := #[.slice none 0 0, .int .i64 0, .int .i64 x233002_1]) ?_ 2 _ rfl; (with_reducible repeat (first | refine zc ?_ _ | refine zd ?_ | refine zb ?_ _)); refine zw (cs := #[.slice none 0 0, .int .i64 x233001_1, .int .i64 x233002_1]) ?_ 1 _ rfl; (with_reducible repeat (first | refine zc ?_ _ | refine zd ?_ | refine zb ?_ _)); refine zw (cs := #[.slice none 0 0, .int .i64 x233001_1, .int .i64 x233002_1]) ?_ 0 _ rfl; (with_reducible repeat (first | refine zc ?_ _ | refine zd ?_ | refine zb ?_ _)); exact BK232.out) Try.underlying52 rfl zG128) rfl ?_
    exact ⟨_, zH111, zH87, zH53⟩
   subst c18
   have H1 : (if x16_1 ≤ (l2.length : Int) then ((slices_Contains_int_int.f k1 (l2.take (x16_1 : Int).toNat) (rd l2 x16_1)).bind fun t242 => (if t242 = true then (impl_sourceOf.l0 k1 l0 l1 l2 l2 (l2.length : Int) (wrap64 (x16_1 + 1)) t233 x237001_1 x237002_1) else (impl_sourceOf.l0 k1 l0 l1 l2 l2 (l2.length : Int) (wrap64 (x16_1 + 1)) t233 (wrap64 (x237001_1 + 1)) (wrap64 (x237002_1 + ((rd_T58 l0 (rd l2 x16_1)).f1)))))) else (none)) = some (r1, r2, r3, r4) := by rw [if_pos rfl] at H; exact H
   clear H
   have H := H1
   clear H1
   have c19b0 := eq_true (zO : 0 ≤ x16_1)
   by_cases c20 : x16_1 ≤ (l2.length : Int)
   rotate_left
   ·rw [if_neg c20] at H
    exact absurd H (by simp)
   rw [if_pos c20] at H
   have c20b0 := eq_true c20
   have c20b1 := decide_eq_true c20
   clear c20
   replace H := Option.bind_eq_some_iff.mp H
   obtain ⟨t242, A210, H⟩ := H
   replace H : (if t242 = true then (impl_sourceOf.l0 k1 l0 l1 l2 l2 (l2.length : Int) (wrap64 (x16_1 + 1)) t233 x237001_1 x237002_1) else (impl_sourceOf.l0 k1 l0 l1 l2 l2 (l2.length : Int) (wrap64 (x16_1 + 1)) t233 (wrap64 (x237001_1 + 1)) (wrap64 (x237002_1 + ((rd_T58 l0 (rd l2 x16_1)).f1))))) = some (r1, r2, r3, r4) := H
   have A21 := za A210
   clear A210
   by_cases c22 : t242 = true
   ·subst c22
    have H1 : (impl_sourceOf.l0 k1 l0 l1 l2 l2 (l2.length : Int) (wrap64 (x16_1 + 1)) t233 x237001_1 x237002_1) = some (r1, r2, r3, r4) := by rw [if_pos rfl] at H; exact H
    clear H
    have H := H1
    clear H1
    have H' := za H
    clear H
    have p237 : 0 ≤ (x16_1 : Int) := zO
    have q237 : x16_1 < (l2.length : Int) := zO
    obtain ⟨ad237, e237, hx237_0⟩ := zbc HR2.out x16_1 p237 q237
    cases e237
    replace hx237_0 := (HB.out.cell (zn w _ hx237_0)).trans hx237_0
    replace p237 := eq_true p237
    replace q237 := eq_true q237
    try go_wp2
    obtain ⟨n0_, n1_, n2_, n3_⟩ := zD4 (zl HO_237000.out) (zd BK232.out) (zd BK236.out) (zg HB.out)
    clear HO_237000 BK232 BK236 HB
    have HO_237000 := n0_
    have BK232 := n1_
    have BK236 := n2_
    have HB := n3_
    clear n0_ n1_ n2_ n3_
    have p238 : 0 ≤ ((rd l2 x16_1) : Int) := zO
    have q238 : (rd l2 x16_1) < (l0.length : Int) := zO
    obtain ⟨ad238, A238_2, c238_2, e238, hx238_0, hx238_1, hx238_2, hl238_2, hi238_2⟩ := at_T58 HR0.out (rd l2 x16_1) p238 q238
    have hw238_2 := hx238_2
    have hw238_1 := hx238_1
    have hw238_0 := hx238_0
    cases e238
    replace hx238_0 := (HB.out.cell (zn w _ hx238_0)).trans hx238_0
    replace hx238_1 := (HB.out.cell (zn w _ hx238_1)).trans hx238_1
    replace hx238_2 := (HB.out.cell (zn w _ hx238_2)).trans hx238_2
    obtain ⟨HR238_2, HC238_2⟩ := zD2 hi238_2 hl238_2
    clear hi238_2 hl238_2
    replace p238 := eq_true p238
    replace q238 := eq_true q238
    have p239 : 0 ≤ (x16_1 : Int) := zO
    have q239 : x16_1 < (l1.length : Int) := zO
    obtain ⟨ad239, e239, hx239_0, hx239_1⟩ := at_T124 HR1.out x16_1 p239 q239
    have hw239_1 := hx239_1
    have hw239_0 := hx239_0
    cases e239
    replace hx239_0 := (HB.out.cell (zn w _ hx239_0)).trans hx239_0
    replace hx239_1 := (HB.out.cell (zn w _ hx239_1)).trans hx239_1
    replace p239 := eq_true p239
    replace q239 := eq_true q239
    refine start_ (n := 10) (S := fun w' => w'.cell? (ad238.add (((rd l2 x16_1)).toNat * 3)) = some (.string ((rd_T58 l0 (rd l2 x16_1)).f0)) ∧ w'.cell? ⟨(ad238.add (((rd l2 x16_1)).toNat * 3)).block, (ad238.add (((rd l2 x16_1)).toNat * 3)).off + 1, none⟩ = some (.int .i64 ((rd_T58 l0 (rd l2 x16_1)).f1)) ∧ w'.cell? ⟨(ad238.add (((rd l2 x16_1)).toNat * 3)).block, (ad238.add (((rd l2 x16_1)).toNat * 3)).off + 2, none⟩ = some (.slice A238_2 ((rd_T58 l0 (rd l2 x16_1)).f2).length c238_2) ∧ w'.cell? (ad239.add ((x16_1).toNat * 2)) = some (.string ((rd_T124 l1 x16_1).f0)) ∧ w'.cell? ⟨(ad239.add ((x16_1).toNat * 2)).block, (ad239.add ((x16_1).toNat * 2)).off + 1, none⟩ = some (.int .i64 ((rd_T124 l1 x16_1).f1))) (ds := []) b6A0 zG128 rfl rfl ⟨((HB.out.cell (zn w _ hw238_0)).trans hw238_0), ((HB.out.cell (zn w _ hw238_1)).trans hw238_1), ((HB.out.cell (zn w _ hw238_2)).trans hw238_2), ((HB.out.cell (zn w _ hw239_0)).trans hw239_0), ((HB.out.cell (zn w _ hw239_1)).trans hw239_1)⟩ (fun hHeld => ?_); refine with_tabW impl_sourceOf.tab5 impl_sourceOf.bits5 (fun HT_ HW_ => ?_)
    generalize wr.drew = w23 at HO_237000 BK232 BK236 HB HR238_2 hx238_0 hx238_1 hx238_2 hx239_0 hx239_1 hHeld ⊢
    refine zP 0 21 b6A1 HT_ ?_
    refine zP 1 22 b6A6 HT_ ?_
    refine zP 2 23 b6A7 HT_ ?_
    refine zP 4 25 b6A8 HT_ ?_
    refine zP 5 26 b6A9 HT_ ?_
    refine zP 6 27 b6A10 HT_ ?_
    refine zQ 3 24 b6A2 HT_ HW_ hHeld ?_
    refine zQ 7 28 b6A3 HT_ HW_ hHeld ?_
    refine one_ (i := 8) (N := some 29) b6A4 rfl rfl (one_of HT_.out zG128) zG129 (fun K hK => ?_)
    refine goes_ Try.func83 zG128 rfl #[.agg #[.string ((rd_T58 l0 (rd l2 x16_1)).f0), .int .i64 ((rd_T58 l0 (rd l2 x16_1)).f1), .slice A238_2 ((rd_T58 l0 (rd l2 x16_1)).f2).length c238_2], .agg #[.string ((rd_T124 l1 x16_1).f0), .int .i64 ((rd_T124 l1 x16_1).f1)]] (by rfl) rfl rfl zG97 ?_
    with_reducible refine (impl_Source_gives.calls k1 ((rd_T58 l0 (rd l2 x16_1)).f0) ((rd_T58 l0 (rd l2 x16_1)).f1) _ _ ((rd_T58 l0 (rd l2 x16_1)).f2) ((rd_T124 l1 x16_1).f0) ((rd_T124 l1 x16_1).f1) true _ ?side1 ?side2 A17.out).mono ?_
    (case side1 => exact zH61)
    (case side2 => exact HC238_2.out)
    rintro e w24 ⟨rfl, hb⟩
    refine ⟨_, rfl, ?_⟩
    obtain ⟨n0_, n1_, n2_, n3_⟩ := zD4 (zv zK237 hb) (zp (g := gb232) (o := .cells #[.slice none 0 0, .int .i64 x233001_1, .int .i64 x233002_1] 52 (0, 0)) zK228 hb) (zp (g := gb236) (o := .cells #[.slice Ao7 t233.length co7, .int .i64 x237001_1, .int .i64 x237002_1] 52 (0, 0)) zK229 hb) (zu zK207 hb)
    clear HO_237000 BK232 BK236 HB
    have HO_237000 := n0_
    have BK232 := n1_
    have BK236 := n2_
    have HB := n3_
    clear n0_ n1_ n2_ n3_
    (try clear hb)
    (try clear hb2)
    (try clear hk)
    (try clear hi)
    refine hK.out _ _ ⟨((HB.out.cell (zn w _ hw238_0)).trans hw238_0), ((HB.out.cell (zn w _ hw238_1)).trans hw238_1), ((HB.out.cell (zn w _ hw238_2)).trans hw238_2), ((HB.out.cell (zn w _ hw239_0)).trans hw239_0), ((HB.out.cell (zn w _ hw239_1)).trans hw239_1)⟩ (fun hHeld => ?_)
    clear hK K
    refine norm_ (a' := ?_) ?_ ?_
    rotate_left
    ·show Act.put _ (some 29) _ = _
     simp only [Act.put, List.setIfInBounds_toArray, List.set_cons_zero, List.set_cons_succ, i64_w, i32_w]
     rfl
    refine zP 9 30 b6A5 HT_ ?_
    refine done_ (done_of HT_.out zG128) ?_
    obtain ⟨i025, hi025, _, hsz25, _⟩ := info_parts info3
    obtain ⟨hcut25, hA25, hC25⟩ := print_take_of (P := Try.prog) (Value.int .i64) 0 24 3 .i64 Try.underlying24 hi025 hsz25 (some ad237) c2 l2 x16_1 zO zO HC2.out
    obtain ⟨HR241, HC241⟩ := zD2 (zbz (h1 := fun _ => rfl) (hA25 _ (zca HR2.out))) hC25
    clear hA25 hC25 hi025 hsz25
    try go_wp2_with (first | ((with_reducible refine gate_callee (f := 118) rfl ?_); refine goesL_ (some 36) rfl rfl Try.func118 zG128 rfl #[.slice (some ad237) (l2.take (x16_1 : Int).toNat).length c2, .int .i64 (rd l2 x16_1)] rfl zK189 ?_; (with_reducible refine (slices_Contains_int_int.calls k1 _ _ (l2.take (x16_1 : Int).toNat) (rd l2 x16_1) true _ ?side1 ?side2 A21.out).mono ?_); (case side1 => exact zH64); (case side2 => exact HC241.out); rintro e w' ⟨rfl, ⟨nd, rfl⟩⟩; refine ⟨_, rfl, ?_⟩))
    go_roundg k1
    case measure => have := HK1.out; omega
    case rel => exact ⟨(wrap64 (x16_1 + 1)), (x233001_1), (x233002_1), (x237001_1), (x237002_1), zG127, H', ⟨zH124⟩, ⟨by (with_reducible repeat (first | apply zj | apply zk | apply zl)); exact HO_237000.out⟩, ⟨by (with_reducible repeat (first | refine zc ?_ _ | refine zd ?_ | refine zb ?_ _)); exact BK232.out⟩, ⟨by (with_reducible repeat (first | refine zc ?_ _ | refine zd ?_ | refine zb ?_ _)); exact BK236.out⟩, ⟨zH53⟩⟩
   replace c22 := Bool.eq_false_iff.mpr c22
   subst c22
   have H1 : (impl_sourceOf.l0 k1 l0 l1 l2 l2 (l2.length : Int) (wrap64 (x16_1 + 1)) t233 (wrap64 (x237001_1 + 1)) (wrap64 (x237002_1 + ((rd_T58 l0 (rd l2 x16_1)).f1)))) = some (r1, r2, r3, r4) := by rw [if_neg (show ¬ (false = true) by decide)] at H; exact H
   clear H
   have H := H1
   clear H1
   have H' := za H
   clear H
   have p237 : 0 ≤ (x16_1 : Int) := zO
   have q237 : x16_1 < (l2.length : Int) := zO
   obtain ⟨ad237, e237, hx237_0⟩ := zbc HR2.out x16_1 p237 q237
   cases e237
   replace hx237_0 := (HB.out.cell (zn w _ hx237_0)).trans hx237_0
   replace p237 := eq_true p237
   replace q237 := eq_true q237
   try go_wp2
   obtain ⟨n0_, n1_, n2_, n3_⟩ := zD4 (zl HO_237000.out) (zd BK232.out) (zd BK236.out) (zg HB.out)
   clear HO_237000 BK232 BK236 HB
   have HO_237000 := n0_
   have BK232 := n1_
   have BK236 := n2_
   have HB := n3_
   clear n0_ n1_ n2_ n3_
   have p238 : 0 ≤ ((rd l2 x16_1) : Int) := zO
   have q238 : (rd l2 x16_1) < (l0.length : Int) := zO
   obtain ⟨ad238, A238_2, c238_2, e238, hx238_0, hx238_1, hx238_2, hl238_2, hi238_2⟩ := at_T58 HR0.out (rd l2 x16_1) p238 q238
   have hw238_2 := hx238_2
   have hw238_1 := hx238_1
   have hw238_0 := hx238_0
   cases e238
   replace hx238_0 := (HB.out.cell (zn w _ hx238_0)).trans hx238_0
   replace hx238_1 := (HB.out.cell (zn w _ hx238_1)).trans hx238_1
   replace hx238_2 := (HB.out.cell (zn w _ hx238_2)).trans hx238_2
   obtain ⟨HR238_2, HC238_2⟩ := zD2 hi238_2 hl238_2
   clear hi238_2 hl238_2
   replace p238 := eq_true p238
   replace q238 := eq_true q238
   have p239 : 0 ≤ (x16_1 : Int) := zO
   have q239 : x16_1 < (l1.length : Int) := zO
   obtain ⟨ad239, e239, hx239_0, hx239_1⟩ := at_T124 HR1.out x16_1 p239 q239
   have hw239_1 := hx239_1
   have hw239_0 := hx239_0
   cases e239
   replace hx239_0 := (HB.out.cell (zn w _ hx239_0)).trans hx239_0
   replace hx239_1 := (HB.out.cell (zn w _ hx239_1)).trans hx239_1
   replace p239 := eq_true p239
   replace q239 := eq_true q239
   refine start_ (n := 10) (S := fun w' => w'.cell? (ad238.add (((rd l2 x16_1)).toNat * 3)) = some (.string ((rd_T58 l0 (rd l2 x16_1)).f0)) ∧ w'.cell? ⟨(ad238.add (((rd l2 x16_1)).toNat * 3)).block, (ad238.add (((rd l2 x16_1)).toNat * 3)).off + 1, none⟩ = some (.int .i64 ((rd_T58 l0 (rd l2 x16_1)).f1)) ∧ w'.cell? ⟨(ad238.add (((rd l2 x16_1)).toNat * 3)).block, (ad238.add (((rd l2 x16_1)).toNat * 3)).off + 2, none⟩ = some (.slice A238_2 ((rd_T58 l0 (rd l2 x16_1)).f2).length c238_2) ∧ w'.cell? (ad239.add ((x16_1).toNat * 2)) = some (.string ((rd_T124 l1 x16_1).f0)) ∧ w'.cell? ⟨(ad239.add ((x16_1).toNat * 2)).block, (ad239.add ((x16_1).toNat * 2)).off + 1, none⟩ = some (.int .i64 ((rd_T124 l1 x16_1).f1))) (ds := []) b6A0 zG128 rfl rfl ⟨((HB.out.cell (zn w _ hw238_0)).trans hw238_0), ((HB.out.cell (zn w _ hw238_1)).trans hw238_1), ((HB.out.cell (zn w _ hw238_2)).trans hw238_2), ((HB.out.cell (zn w _ hw239_0)).trans hw239_0), ((HB.out.cell (zn w _ hw239_1)).trans hw239_1)⟩ (fun hHeld => ?_); refine with_tabW impl_sourceOf.tab5 impl_sourceOf.bits5 (fun HT_ HW_ => ?_)
   generalize wr.drew = w26 at HO_237000 BK232 BK236 HB HR238_2 hx238_0 hx238_1 hx238_2 hx239_0 hx239_1 hHeld ⊢
   refine zP 0 21 b6A1 HT_ ?_
   refine zP 1 22 b6A6 HT_ ?_
   refine zP 2 23 b6A7 HT_ ?_
   refine zP 4 25 b6A8 HT_ ?_
   refine zP 5 26 b6A9 HT_ ?_
   refine zP 6 27 b6A10 HT_ ?_
   refine zQ 3 24 b6A2 HT_ HW_ hHeld ?_
   refine zQ 7 28 b6A3 HT_ HW_ hHeld ?_
   refine one_ (i := 8) (N := some 29) b6A4 rfl rfl (one_of HT_.out zG128) zG129 (fun K hK => ?_)
   refine goes_ Try.func83 zG128 rfl #[.agg #[.string ((rd_T58 l0 (rd l2 x16_1)).f0), .int .i64 ((rd_T58 l0 (rd l2 x16_1)).f1), .slice A238_2 ((rd_T58 l0 (rd l2 x16_1)).f2).length c238_2], .agg #[.string ((rd_T124 l1 x16_1).f0), .int .i64 ((rd_T124 l1 x16_1).f1)]] (by rfl) rfl rfl zG97 ?_
   with_reducible refine (impl_Source_gives.calls k1 ((rd_T58 l0 (rd l2 x16_1)).f0) ((rd_T58 l0 (rd l2 x16_1)).f1) _ _ ((rd_T58 l0 (rd l2 x16_1)).f2) ((rd_T124 l1 x16_1).f0) ((rd_T124 l1 x16_1).f1) true _ ?side1 ?side2 A17.out).mono ?_
   (case side1 => exact zH61)
   (case side2 => exact HC238_2.out)
   rintro e w27 ⟨rfl, hb⟩
   refine ⟨_, rfl, ?_⟩
   obtain ⟨n0_, n1_, n2_, n3_⟩ := zD4 (zv zK237 hb) (zp (g := gb232) (o := .cells #[.slice none 0 0, .int .i64 x233001_1, .int .i64 x233002_1] 52 (0, 0)) zK228 hb) (zp (g := gb236) (o := .cells #[.slice Ao7 t233.length co7, .int .i64 x237001_1, .int .i64 x237002_1] 52 (0, 0)) zK229 hb) (zu zK207 hb)
   clear HO_237000 BK232 BK236 HB
   have HO_237000 := n0_
   have BK232 := n1_
   have BK236 := n2_
   have HB := n3_
   clear n0_ n1_ n2_ n3_
   (try clear hb)
   (try clear hb2)
   (try clear hk)
   (try clear hi)
   refine hK.out _ _ ⟨((HB.out.cell (zn w _ hw238_0)).trans hw238_0), ((HB.out.cell (zn w _ hw238_1)).trans hw238_1), ((HB.out.cell (zn w _ hw238_2)).trans hw238_2), ((HB.out.cell (zn w _ hw239_0)).trans hw239_0), ((HB.out.cell (zn w _ hw239_1)).trans hw239_1)⟩ (fun hHeld => ?_)
   clear hK K
   refine norm_ (a' := ?_) ?_ ?_
   rotate_left
   ·show Act.put _ (some 29) _ = _
    simp only [Act.put, List.setIfInBounds_toArray, List.set_cons_zero, List.set_cons_succ, i64_w, i32_w]
    rfl
   refine zP 9 30 b6A5 HT_ ?_
   refine done_ (done_of HT_.out zG128) ?_
   obtain ⟨i028, hi028, _, hsz28, _⟩ := info_parts info3
   obtain ⟨hcut28, hA28, hC28⟩ := print_take_of (P := Try.prog) (Value.int .i64) 0 24 3 .i64 Try.underlying24 hi028 hsz28 (some ad237) c2 l2 x16_1 zO zO HC2.out
   obtain ⟨HR241, HC241⟩ := zD2 (zbz (h1 := fun _ => rfl) (hA28 _ (zca HR2.out))) hC28
   clear hA28 hC28 hi028 hsz28
   try go_wp2_with (first | ((with_reducible refine gate_callee (f := 118) rfl ?_); refine goesL_ (some 36) rfl rfl Try.func118 zG128 rfl #[.slice (some ad237) (l2.take (x16_1 : Int).toNat).length c2, .int .i64 (rd l2 x16_1)] rfl zK189 ?_; (with_reducible refine (slices_Contains_int_int.calls k1 _ _ (l2.take (x16_1 : Int).toNat) (rd l2 x16_1) false _ ?side1 ?side2 A21.out).mono ?_); (case side1 => exact zH64); (case side2 => exact HC241.out); rintro e w' ⟨rfl, ⟨nd, rfl⟩⟩; refine ⟨_, rfl, ?_⟩; (try (rw [drewN_self w27]; generalize hq_ : World.drewN w27 _ = w27; have n0_ : Aside0 (Kd.R (Kd.int .i64) 3 w27 w.heap.size (fun _ => True) (.slice Ao7 t233.length co7) t233) := ⟨by rw [← hq_]; exact zK237⟩; have n1_ : Aside0 (w27.heap[gb232]? = some (.cells #[.slice none 0 0, .int .i64 x233001_1, .int .i64 x233002_1] 52 (0, 0))) := ⟨by rw [← hq_]; exact zK228⟩; have n2_ : Aside0 (w27.heap[gb236]? = some (.cells #[.slice Ao7 t233.length co7, .int .i64 x237001_1, .int .i64 x237002_1] 52 (0, 0))) := ⟨by rw [← hq_]; exact zK229⟩; have n3_ : Aside0 (Below w.heap.size w w27) := ⟨by rw [← hq_]; exact zK207⟩; clear HO_237000 BK232 BK236 HB hq_; have HO_237000 := n0_; have BK232 := n1_; have BK236 := n2_; have HB := n3_; clear n0_ n1_ n2_ n3_)); (try have hcu29_0 : w27.cell? ⟨gb232, 0, none⟩ = some (.slice none 0 0) := (zi BK232.out 0).trans rfl); (try have hcu29_1 : w27.cell? ⟨gb232, 1, none⟩ = some (.int .i64 x233001_1) := (zi BK232.out 1).trans rfl); (try have hcu29_2 : w27.cell? ⟨gb232, 2, none⟩ = some (.int .i64 x233002_1) := (zi BK232.out 2).trans rfl); (try have hfcu29_0 := zm BK232.out 0); (try have hfcu29_1 := zm BK232.out 1); (try have hfcu29_2 := zm BK232.out 2); (try have hcu30_0 : w27.cell? ⟨gb236, 0, none⟩ = some (.slice Ao7 t233.length co7) := (zi BK236.out 0).trans rfl); (try have hcu30_1 : w27.cell? ⟨gb236, 1, none⟩ = some (.int .i64 x237001_1) := (zi BK236.out 1).trans rfl); (try have hcu30_2 : w27.cell? ⟨gb236, 2, none⟩ = some (.int .i64 x237002_1) := (zi BK236.out 2).trans rfl); (try have hfcu30_0 := zm BK236.out 0); (try have hfcu30_1 := zm BK236.out 1); (try have hfcu30_2 := zm BK236.out 2); have hnb31 := NB236_232.out; have hnc31 := NB232_236.out; obtain ⟨hcz32_0, hcz32_1, hcz32_2, hfz32_0, hfz32_1, hfz32_2⟩ := zB3 BK236.out))
   have n0_ : Aside0 (Kd.R (Kd.int .i64) 3 (w27.setCell ⟨gb236, 1, none⟩ (.int .i64 (wrap64 (x237001_1 + 1)))) w.heap.size (fun _ => True) (.slice Ao7 t233.length co7) t233) := ⟨by (with_reducible repeat (first | apply zj | apply zk | apply zl)); exact zs (zo (p := ⟨gb236, 1, none⟩) (zt HO_237000.out BK236.out zG129) (fun _ hk => hk.2) (.int .i64 (wrap64 (x237001_1 + 1)))) (fun _ hk => trivial)⟩
   have n1_ : Aside0 ((w27.setCell ⟨gb236, 1, none⟩ (.int .i64 (wrap64 (x237001_1 + 1)))).heap[gb232]? = some (.cells #[.slice none 0 0, .int .i64 x233001_1, .int .i64 x233002_1] 52 (0, 0))) := ⟨zH35⟩
   have n2_ : Aside0 ((w27.setCell ⟨gb236, 1, none⟩ (.int .i64 (wrap64 (x237001_1 + 1)))).heap[gb236]? = some (.cells #[.slice Ao7 t233.length co7, .int .i64 (wrap64 (x237001_1 + 1)), .int .i64 x237002_1] 52 (0, 0))) := ⟨by (with_reducible repeat (first | refine zc ?_ _ | refine zd ?_ | refine zb ?_ _)); refine zw (cs := #[.slice Ao7 t233.length co7, .int .i64 x237001_1, .int .i64 x237002_1]) ?_ 1 _ rfl; (with_reducible repeat (first | refine zc ?_ _ | refine zd ?_ | refine zb ?_ _)); exact BK236.out⟩
   have n3_ : Aside0 (Below w.heap.size w (w27.setCell ⟨gb236, 1, none⟩ (.int .i64 (wrap64 (x237001_1 + 1))))) := ⟨zH53⟩
   (try clear HO_237000)
   (try clear BK232)
   (try clear BK236)
   (try clear HB)
   generalize (w27.setCell ⟨gb236, 1, none⟩ (.int .i64 (wrap64 (x237001_1 + 1)))) = w33 at n0_ n1_ n2_ n3_ ⊢
   have HO_237000 := n0_
   have BK232 := n1_
   have BK236 := n2_
   have HB := n3_
   clear n0_ n1_ n2_ n3_
   obtain ⟨n0_, n1_, n2_, n3_⟩ := zD4 (zl HO_237000.out) (zd BK232.out) (zd BK236.out) (zg HB.out)
   clear HO_237000 BK232 BK236 HB
   have HO_237000 := n0_
   have BK232 := n1_
   have BK236 := n2_
   have HB := n3_
   clear n0_ n1_ n2_ n3_
   have p243 : 0 ≤ ((rd l2 x16_1) : Int) := zO
   have q243 : (rd l2 x16_1) < (l0.length : Int) := zO
   obtain ⟨ad243, A243_2, c243_2, e243, hx243_0, hx243_1, hx243_2, hl243_2, hi243_2⟩ := at_T58 HR0.out (rd l2 x16_1) p243 q243
   have hw243_2 := hx243_2
   have hw243_1 := hx243_1
   have hw243_0 := hx243_0
   obtain rfl : ad238 = ad243 := (by injection e243)
   replace hx243_0 := (HB.out.cell (zn w _ hx243_0)).trans hx243_0
   replace hx243_1 := (HB.out.cell (zn w _ hx243_1)).trans hx243_1
   replace hx243_2 := (HB.out.cell (zn w _ hx243_2)).trans hx243_2
   obtain ⟨HR243_2, HC243_2⟩ := zD2 hi243_2 hl243_2
   clear hi243_2 hl243_2
   replace p243 := eq_true p243
   replace q243 := eq_true q243
   refine start_ (n := 10) (S := fun w' => w'.cell? ⟨gb236, 0, none⟩ = some (.slice Ao7 t233.length co7) ∧ w'.cell? ⟨gb236, 1, none⟩ = some (.int .i64 (wrap64 (x237001_1 + 1))) ∧ w'.cell? ⟨gb236, 2, none⟩ = some (.int .i64 x237002_1) ∧ w'.cell? (ad238.add (((rd l2 x16_1)).toNat * 3)) = some (.string ((rd_T58 l0 (rd l2 x16_1)).f0)) ∧ w'.cell? ⟨(ad238.add (((rd l2 x16_1)).toNat * 3)).block, (ad238.add (((rd l2 x16_1)).toNat * 3)).off + 1, none⟩ = some (.int .i64 ((rd_T58 l0 (rd l2 x16_1)).f1)) ∧ w'.cell? ⟨(ad238.add (((rd l2 x16_1)).toNat * 3)).block, (ad238.add (((rd l2 x16_1)).toNat * 3)).off + 2, none⟩ = some (.slice A243_2 ((rd_T58 l0 (rd l2 x16_1)).f2).length c243_2)) (ds := [9]) b6A0 zG128 rfl rfl ⟨(zi BK236.out 0).trans rfl, (zi BK236.out 1).trans rfl, (zi BK236.out 2).trans rfl, ((HB.out.cell (zn w _ hw243_0)).trans hw243_0), ((HB.out.cell (zn w _ hw243_1)).trans hw243_1), ((HB.out.cell (zn w _ hw243_2)).trans hw243_2)⟩ (fun hHeld => ?_); refine with_tabW impl_sourceOf.tab9 impl_sourceOf.bits9 (fun HT_ HW_ => ?_)
   generalize w33.drew = w34 at HO_237000 BK232 BK236 HB HR243_2 hx243_0 hx243_1 hx243_2 hHeld ⊢
   refine zP 0 42 b6A1 HT_ ?_
   refine zP 2 44 #[true, false, true, false, false, false, false, false, false, false] HT_ ?_
   refine zP 3 45 #[true, false, true, true, false, false, false, false, false, false] HT_ ?_
   refine zP 4 46 #[true, false, true, true, true, false, false, false, false, false] HT_ ?_
   refine zP 5 47 #[true, false, true, true, true, true, false, false, false, false] HT_ ?_
   refine zQ 1 43 #[true, true, true, true, true, true, false, false, false, false] HT_ HW_ hHeld ?_
   refine zQ 6 48 b6A2 HT_ HW_ hHeld ?_
   refine zP 7 49 b6A3 HT_ ?_
   refine zP 8 50 b6A4 HT_ ?_
   refine last_ (i := 9) (N := none) b6A5 rfl rfl (one_of HT_.out zG128) zG129 (fun K hK => ?_)
   have hs35 : w34.cell? ⟨gb236, 2, none⟩ = some (.int .i64 x237002_1) := (zi BK236.out 2).trans rfl
   have hfs35 := zm BK236.out 2
   have hns35_0 := NB232_236.out
   have hms35_0 := NB236_232.out
   refine skip_ (w1 := ?_) (by rfl) rfl ?_ ?_
   rotate_left
   ·go_simp
    rfl
   refine hK.out _ _ ?_
   clear hK K
   refine done_ (done_of HT_.out zG128) ?_
   try go_wp2
   go_roundg k1
   case measure => have := HK1.out; omega
   case rel => exact ⟨(wrap64 (x16_1 + 1)), (x233001_1), (x233002_1), (wrap64 (x237001_1 + 1)), (wrap64 (x237002_1 + ((rd_T58 l0 (rd l2 x16_1)).f1))), zG127, H', ⟨zH124⟩, ⟨by (with_reducible repeat (first | apply zj | apply zk | apply zl)); exact zs (zo (p := ⟨gb236, 2, none⟩) (zt HO_237000.out BK236.out zG129) (fun _ hk => hk.2) (.int .i64 (wrap64 (x237002_1 + ((rd_T58 l0 (rd l2 x16_1)).f1))))) (fun _ hk => trivial)⟩, ⟨zH35⟩, ⟨by (with_reducible repeat (first | refine zc ?_ _ | refine zd ?_ | refine zb ?_ _)); refine zw (cs := #[.slice Ao7 t233.length co7, .int .i64 (wrap64 (x237001_1 + 1)), .int .i64 x237002_1]) ?_ 2 _ rfl; (with_reducible repeat (first | refine zc ?_ _ | refine zd ?_ | refine zb ?_ _)); exact BK236.out⟩, ⟨zH53⟩⟩
/-! ### impl_isCheaper: function 82 -/
def impl_isCheaper.f (l0_0 : List Int) (a0_1 : Int) (a0_2 : Int) (l1_0 : List Int) (a1_1 : Int) (a1_2 : Int) : Option (Bool) := if a0_2 < a1_2 then (some true) else (if a0_2 = a1_2 then (some (decide (a0_1 < a1_1))) else (some false))
set_option maxHeartbeats 64000000 in
set_option maxRecDepth 100000 in
theorem impl_isCheaper.calls (A0_0 : Option Addr) (c0_0 : Nat) (l0_0 : List Int) (a0_1 : Int) (a0_2 : Int) (A1_0 : Option Addr) (c1_0 : Nat) (l1_0 : List Int) (a1_1 : Int) (a1_2 : Int) (r : Bool) (w : World) (hr0_0 : Kd.C (Kd.int .i64) w A0_0 l0_0.length l0_0) (hc0_0 : l0_0.length ≤ c0_0) (hr1_0 : Kd.C (Kd.int .i64) w A1_0 l1_0.length l1_0) (hc1_0 : l1_0.length ≤ c1_0) (h : impl_isCheaper.f l0_0 a0_1 a0_2 l1_0 a1_1 a1_2 = some r) :
  Calls Try.prog 82 #[.agg #[.slice A0_0 l0_0.length c0_0, .int .i64 a0_1, .int .i64 a0_2], .agg #[.slice A1_0 l1_0.length c1_0, .int .i64 a1_1, .int .i64 a1_2]] w fun e w' => e = .returned (.bool r) ∧ Below w.heap.size w w' := by
 have hu52 := Try.underlying52
 obtain ⟨HR0_0, HC0_0, HR1_0, HC1_0, HB⟩ := zD5 hr0_0 hc0_0 hr1_0 hc1_0 (Below.refl w.heap.size w)
 clear hr0_0 hc0_0 hr1_0 hc1_0
 have H : (if a0_2 < a1_2 then (some true) else (if a0_2 = a1_2 then (some (decide (a0_1 < a1_1))) else (some false))) = some r := h
 clear h
 by_cases c3 : a0_2 < a1_2
 ·rw [if_pos c3] at H
  have c3b0 := decide_eq_true c3
  clear c3
  obtain rfl := Option.some.inj H
  go_enter Try.func82, Try.ntmps82
  go_wp2_with (first | ((with_reducible refine gate_dst (N := 2) rfl ?_); refine box_event ?hg (N := 2) ?hd (cs := #[.slice A0_0 l0_0.length c0_0, .int .i64 a0_1, .int .i64 a0_2]) (t := 52) ?hr ?_; (case hd => rfl); (case hg => rfl); (case hr => exact zH119); intro gb244 hg w4 hbox hb; have n_ := zA_ (za (zu zG102 hb)) (zA_ (za (hbox)) (zA_ (zN1 w.heap.size hg (zq zG102)) (zN1 w.heap.size hg (zq zG102)))); clear HB; obtain ⟨HB, BK244, GW244, GE244⟩ := n_; clear hb hbox hg) | ((with_reducible refine gate_dst (N := 3) rfl ?_); refine box_event ?hg (N := 3) ?hd (cs := #[.slice A1_0 l1_0.length c1_0, .int .i64 a1_1, .int .i64 a1_2]) (t := 52) ?hr ?_; (case hd => rfl); (case hg => rfl); (case hr => exact zH119); intro gb245 hg w5 hbox hb; have n_ := zA_ (za (zp (g := gb244) (o := .cells #[.slice A0_0 l0_0.length c0_0, .int .i64 a0_1, .int .i64 a0_2] 52 (0, 0)) zK230 hb)) (zA_ (za (zu zK213 hb)) (zA_ (za (hbox)) (zA_ (zN1 w.heap.size hg (zq zK213)) (zA_ (zN1 w.heap.size hg (zq zK213)) (zN2 hg (zz (g := gb244) (o := .cells #[.slice A0_0 l0_0.length c0_0, .int .i64 a0_1, .int .i64 a0_2] 52 (0, 0)) zK230)))))); clear BK244 HB; obtain ⟨BK244, HB, BK245, GW245, GE245, NB244_245, NB245_244⟩ := n_; clear hb hbox hg; have hnb6 := NB244_245.out; have hnc6 := NB245_244.out; obtain ⟨hcz7_0, hcz7_1, hcz7_2, hfz7_0, hfz7_1, hfz7_2⟩ := zB3 BK244.out; obtain ⟨hcz8_0, hcz8_1, hcz8_2, hfz8_0, hfz8_1, hfz8_2⟩ := zB3 BK245.out))
  go_ret
  exact zH21
 rw [if_neg c3] at H
 have c3b0 := decide_eq_false c3
 clear c3
 by_cases c9 : a0_2 = a1_2
 rotate_left
 ·rw [if_neg c9] at H
  have c9b0 : (a0_2 == a1_2) = false := beq_eq_false_iff_ne.mpr c9
  have c9b1 : (a0_2 != a1_2) = true := bne_iff_ne.mpr c9
  obtain rfl := Option.some.inj H
  go_enter Try.func82, Try.ntmps82
  go_wp2_with (first | ((with_reducible refine gate_dst (N := 2) rfl ?_); refine box_event ?hg (N := 2) ?hd (cs := #[.slice A0_0 l0_0.length c0_0, .int .i64 a0_1, .int .i64 a0_2]) (t := 52) ?hr ?_; (case hd => rfl); (case hg => rfl); (case hr => exact zH119); intro gb244 hg w15 hbox hb; have n_ := zA_ (za (zu zG102 hb)) (zA_ (za (hbox)) (zA_ (zN1 w.heap.size hg (zq zG102)) (zN1 w.heap.size hg (zq zG102)))); clear HB; obtain ⟨HB, BK244, GW244, GE244⟩ := n_; clear hb hbox hg) | ((with_reducible refine gate_dst (N := 3) rfl ?_); refine box_event ?hg (N := 3) ?hd (cs := #[.slice A1_0 l1_0.length c1_0, .int .i64 a1_1, .int .i64 a1_2]) (t := 52) ?hr ?_; (case hd => rfl); (case hg => rfl); (case hr => exact zH119); intro gb245 hg w16 hbox hb; have n_ := zA_ (za (zp (g := gb244) (o := .cells #[.slice A0_0 l0_0.length c0_0, .int .i64 a0_1, .int .i64 a0_2] 52 (0, 0)) zK230 hb)) (zA_ (za (zu zK213 hb)) (zA_ (za (hbox)) (zA_ (zN1 w.heap.size hg (zq zK213)) (zA_ (zN1 w.heap.size hg (zq zK213)) (zN2 hg (zz (g := gb244) (o := .cells #[.slice A0_0 l0_0.length c0_0, .int .i64 a0_1, .int .i64 a0_2] 52 (0, 0)) zK230)))))); clear BK244 HB; obtain ⟨BK244, HB, BK245, GW245, GE245, NB244_245, NB245_244⟩ := n_; clear hb hbox hg; have hnb17 := NB244_245.out; have hnc17 := NB245_244.out; obtain ⟨hcz18_0, hcz18_1, hcz18_2, hfz18_0, hfz18_1, hfz18_2⟩ := zB3 BK244.out; obtain ⟨hcz19_0, hcz19_1, hcz19_2, hfz19_0, hfz19_1, hfz19_2⟩ := zB3 BK245.out))
  go_ret
  exact zH21

 rw [if_pos c9] at H
 have c9b0 : (a0_2 == a1_2) = true := beq_iff_eq.mpr c9
 have c9b1 : (a0_2 != a1_2) = false := bne_eq_false_iff_eq.mpr c9
 clear c9
 obtain rfl := Option.some.inj H
 go_enter Try.func82, Try.ntmps82
 go_wp2_with (first | ((with_reducible refine gate_dst (N := 2) rfl ?_); refine box_event ?hg (N := 2) ?hd (cs := #[.slice A0_0 l0_0.length c0_0, .int .i64 a0_1, .int .i64 a0_2]) (t := 52) ?hr ?_; (case hd => rfl); (case hg => rfl); (case hr => exact zH119); intro gb244 hg w10 hbox hb; have n_ := zA_ (za (zu zG102 hb)) (zA_ (za (hbox)) (zA_ (zN1 w.heap.size hg (zq zG102)) (zN1 w.heap.size hg (zq zG102)))); clear HB; obtain ⟨HB, BK244, GW244, GE244⟩ := n_; clear hb hbox hg) | ((with_reducible refine gate_dst (N := 3) rfl ?_); refine box_event ?hg (N := 3) ?hd (cs := #[.slice A1_0 l1_0.length c1_0, .int .i64 a1_1, .int .i64 a1_2]) (t := 52) ?hr ?_; (case hd => rfl); (case hg => rfl); (case hr => exact zH119); intro gb245 hg w11 hbox hb; have n_ := zA_ (za (zp (g := gb244) (o := .cells #[.slice A0_0 l0_0.length c0_0, .int .i64 a0_1, .int .i64 a0_2] 52 (0, 0)) zK230 hb)) (zA_ (za (zu zK213 hb)) (zA_ (za (hbox)) (zA_ (zN1 w.heap.size hg (zq zK213)) (zA_ (zN1 w.heap.size hg (zq zK213)) (zN2 hg (zz (g := gb244) (o := .cells #[.slice A0_0 l0_0.length c0_0, .int .i64 a0_1, .int .i64 a0_2] 52 (0, 0)) zK230)))))); clear BK244 HB; obtain ⟨BK244, HB, BK245, GW245, GE245, NB244_245, NB245_244⟩ := n_; clear hb hbox hg; have hnb12 := NB244_245.out; have hnc12 := NB245_244.out; obtain ⟨hcz13_0, hcz13_1, hcz13_2, hfz13_0, hfz13_1, hfz13_2⟩ := zB3 BK244.out; obtain ⟨hcz14_0, hcz14_1, hcz14_2, hfz14_0, hfz14_1, hfz14_2⟩ := zB3 BK245.out))
 go_ret
 exact zH21
end Go.Proofs.Ytojncbpeeboooaa.X
