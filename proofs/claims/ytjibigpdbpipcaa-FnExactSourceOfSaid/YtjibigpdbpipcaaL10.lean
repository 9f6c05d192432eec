-- squeezed
-- made by pp.py (wip/tools) out of the translation; Lean checks it
import Derived.Test.YtjibigpdbpipcaaL0
import Derived.Test.YtjibigpdbpipcaaL9
namespace Go.Proofs.Ytjibigpdbpipcaa.L
open Go.RowKit Go.Proofs.YtjibigpdbpipcaaW.PrintWords Go.Proofs.YtjibigpdbpipcaaW.PrintLast Go.Proofs.YtjibigpdbpipcaaW.PrintMore
attribute [local go_sem] max2_int min2_int max_two min_two max_three min_three max_four min_four   -- for this text's walks alone
set_option linter.unusedVariables false
set_option linter.unusedSimpArgs false

abbrev b10A0 : Array Bool := #[false, false, false, false, false, false, false, false, false, false]
abbrev b10A1 : Array Bool := #[true, false, false, false, false, false, false, false, false, false]
abbrev b10A2 : Array Bool := #[true, true, true, true, true, true, true, false, false, false]
abbrev b10A3 : Array Bool := #[true, true, true, true, true, true, true, true, false, false]
abbrev b10A4 : Array Bool := #[true, true, true, true, true, true, true, true, true, false]
abbrev b10A5 : Array Bool := #[true, true, true, true, true, true, true, true, true, true]
abbrev b10A6 : Array Bool := #[true, true, false, false, false, false, false, false, false, false]
abbrev b10A7 : Array Bool := #[true, true, true, false, false, false, false, false, false, false]
abbrev b10A8 : Array Bool := #[true, true, true, false, true, false, false, false, false, false]
abbrev b10A9 : Array Bool := #[true, true, true, false, true, true, false, false, false, false]
abbrev b10A10 : Array Bool := #[true, true, true, false, true, true, true, false, false, false]
/-! ### impl_sourceOf: function 46 -/
def impl_sourceOf.l0 : Nat → List (S75) → List (S76) → List Int → List Int → Int → Int → List Int → Int → Int → Option (List Int × Int × Int × Bool)
 | 0, _, _, _, _, _, _, _, _, _ => none
 | k + 1, x0, x1, x2, x14, x15, x16, x247000, x247001, x247002 => if x16 < x15 then (if 0 ≤ x16 then (if x16 < (x14.length : Int) then (if 0 ≤ (rd x14 x16) then (if (rd x14 x16) < (x0.length : Int) then (if x16 < (x1.length : Int) then ((impl_Source_gives.f k ((rd_T75 x0 (rd x14 x16)).f0) ((rd_T75 x0 (rd x14 x16)).f1) ((rd_T75 x0 (rd x14 x16)).f2) ((rd_T76 x1 x16).f0) ((rd_T76 x1 x16).f1)).bind fun t250 => (if t250 = true then (if x16 ≤ (x2.length : Int) then ((slices_Contains_int_int.f k (x2.take (x16 : Int).toNat) (rd x14 x16)).bind fun t252 => (if t252 = true then (impl_sourceOf.l0 k x0 x1 x2 x14 x15 (wrap64 (x16 + 1)) x247000 x247001 x247002) else (impl_sourceOf.l0 k x0 x1 x2 x14 x15 (wrap64 (x16 + 1)) x247000 (wrap64 (x247001 + 1)) (wrap64 (x247002 + ((rd_T75 x0 (rd x14 x16)).f1)))))) else (none)) else (some (([] : List Int), 0, 0, false)))) else (none)) else (none)) else (none)) else (none)) else (none)) else (some (x247000, x247001, x247002, true))
def impl_sourceOf.f (k : Nat) (l0 : List (S75)) (l1 : List (S76)) (l2 : List Int) : Option (List Int × Int × Int × Bool) := (slices_Clone_int_int.f l2).bind fun t243 => (impl_sourceOf.l0 k l0 l1 l2 l2 (l2.length : Int) 0 t243 0 0)
theorem impl_sourceOf.mono_l : ∀ k, (∀ y0 y1 y2 y3 y4 y5 y6 y7 y8, LeO (impl_sourceOf.l0 k y0 y1 y2 y3 y4 y5 y6 y7 y8) (impl_sourceOf.l0 (k + 1) y0 y1 y2 y3 y4 y5 y6 y7 y8))
 | 0 => fun _ _ _ _ _ _ _ _ _ r h => by simp [impl_sourceOf.l0] at h
 | k + 1 => by
  have ih0 := impl_sourceOf.mono_l k
  ·intro y0 y1 y2 y3 y4 y5 y6 y7 y8
   unfold impl_sourceOf.l0
   repeat' first
   | (with_reducible exact ih0 _ _ _ _ _ _ _ _ _)
   | (with_reducible exact impl_Source_gives.mono _ _ _ _ _ _)
   | (with_reducible exact slices_Contains_int_int.mono _ _ _)
   | (with_reducible exact LeO.refl _)
   | (with_reducible exact LeO.none _)
   | (with_reducible refine LeO.ite ?_ ?_)
   | (with_reducible refine LeO.bind ?_ (fun _ => ?_))
   | exact ih0 _ _ _ _ _ _ _ _ _
   | exact impl_Source_gives.mono _ _ _ _ _ _
   | exact slices_Contains_int_int.mono _ _ _
   | exact LeO.none _
   | refine LeO.ite ?_ ?_
   | refine LeO.bind ?_ (fun _ => ?_)
theorem impl_sourceOf.mono : ∀ a0 a1 a2 k, LeO (impl_sourceOf.f k a0 a1 a2) (impl_sourceOf.f (k + 1) a0 a1 a2) := by
 intro a0 a1 a2 k
 have ih0 := impl_sourceOf.mono_l k
 unfold impl_sourceOf.f
 repeat' first
   | (with_reducible exact ih0 _ _ _ _ _ _ _ _ _)
   | (with_reducible exact impl_Source_gives.mono _ _ _ _ _ _)
   | (with_reducible exact slices_Contains_int_int.mono _ _ _)
   | (with_reducible exact LeO.refl _)
   | (with_reducible exact LeO.none _)
   | (with_reducible refine LeO.ite ?_ ?_)
   | (with_reducible refine LeO.bind ?_ (fun _ => ?_))
   | exact ih0 _ _ _ _ _ _ _ _ _
   | exact impl_Source_gives.mono _ _ _ _ _ _
   | exact slices_Contains_int_int.mono _ _ _
   | exact LeO.none _
   | refine LeO.ite ?_ ?_
   | refine LeO.bind ?_ (fun _ => ?_)
def impl_sourceOf.T5 : Bool × List (List Nat × List Nat) := (true, [([], []), ([], []), ([0, 1], [0, 1]), ([2], [2]), ([], []), ([], []), ([4, 5], [4, 5]), ([6], [6]), ([3, 7], [3, 7]), ([8], [8])])
def impl_sourceOf.B5 : List Nat := [0, 0, 3, 7, 0, 0, 48, 112, 255, 511]
theorem impl_sourceOf.tab5 : rtab .any (opsOf Try.f46 5) = impl_sourceOf.T5 := by kernel_rfl
theorem impl_sourceOf.bits5 : waitsOk impl_sourceOf.T5.2 impl_sourceOf.B5 = true := by kernel_rfl
def impl_sourceOf.T9 : Bool × List (List Nat × List Nat) := (true, [([], []), ([0], [0]), ([], []), ([], []), ([2, 3], [2, 3]), ([4], [4]), ([5], [5]), ([1, 6], [1, 6]), ([0, 1, 2, 3, 4, 5, 6, 7], []), ([8, 7, 0, 1, 2, 3, 4, 5, 6, 7], [7, 8])])
def impl_sourceOf.B9 : List Nat := [0, 1, 0, 0, 12, 28, 60, 127, 255, 511]
theorem impl_sourceOf.tab9 : rtab .any (opsOf Try.f46 9) = impl_sourceOf.T9 := by kernel_rfl
theorem impl_sourceOf.bits9 : waitsOk impl_sourceOf.T9.2 impl_sourceOf.B9 = true := by kernel_rfl
set_option maxHeartbeats 8000000 in
set_option maxRecDepth 100000 in
theorem impl_sourceOf.calls (k : Nat) (A0 : Option Addr) (c0 : Nat) (l0 : List (S75)) (A1 : Option Addr) (c1 : Nat) (l1 : List (S76)) (A2 : Option Addr) (c2 : Nat) (l2 : List Int) (r1 : List Int) (r2 : Int) (r3 : Int) (r4 : Bool) (w : World) (hr0 : Kd.C k75 w A0 l0.length l0) (hc0 : l0.length ≤ c0) (hr1 : Kd.C k76 w A1 l1.length l1) (hc1 : l1.length ≤ c1) (hr2 : Kd.C (Kd.int .i64) w A2 l2.length l2) (hc2 : l2.length ≤ c2) (h : impl_sourceOf.f k l0 l1 l2 = some (r1, r2, r3, r4)) :
  Calls Try.prog 46 #[.slice A0 l0.length c0, .slice A1 l1.length c1, .slice A2 l2.length c2] w fun e w' => ∃ v0_ : Value, e = .returned (.tuple #[.agg #[v0_, .int .i64 r2, .int .i64 r3], .bool r4]) ∧ Kd.R (Kd.int .i64) 3 w' w.heap.size (fun _ => True) v0_ r1 ∧ Below w.heap.size w w' := by
 have hu28 := Try.underlying28
 have hu75 := Try.underlying75
 have hu76 := Try.underlying76
 have HR0 := za hr0
 have HC0 := za hc0
 clear hr0 hc0
 have HR1 := za hr1
 have HC1 := za hc1
 clear hr1 hc1
 have HR2 := za hr2
 have HC2 := za hc2
 clear hr2 hc2
 have HB := za (Below.refl w.heap.size w)
 have H : ((slices_Clone_int_int.f l2).bind fun t243 => (impl_sourceOf.l0 k l0 l1 l2 l2 (l2.length : Int) 0 t243 0 0)) = some (r1, r2, r3, r4) := h
 clear h
 replace H := Option.bind_eq_some_iff.mp H
 obtain ⟨t243, A40, H⟩ := H
 replace H : (impl_sourceOf.l0 k l0 l1 l2 l2 (l2.length : Int) 0 t243 0 0) = some (r1, r2, r3, r4) := H
 have A4 := za A40
 clear A40
 have H' := za H
 clear H
 go_enter Try.func46, Try.ntmps46
 go_wp2_with (first | ((with_reducible refine gate_dst (N := 6) rfl ?_); refine box_event ?hg (N := 6) ?hd (cs := #[.slice none 0 0, .int .i64 0, .int .i64 0]) (t := 28) ?hr ?_; (case hd => rfl); (case hg => rfl); (case hr => first | (go_simp; done) | (go_simp; rfl)); intro gb242 hg w5 hbox hb; have n0_ := za (zq zG72 hb); have n1_ := za (hbox); have n2_ := za ((by rw [hg]; exact (zo zG72) : w.heap.size ≤ gb242)); have n3_ := za ((by rw [hg]; exact (zo zG72) : w.heap.size ≤ gb242)); clear HB; have HB := n0_; have BK242 := n1_; have GW242 := n2_; have GE242 := n3_; clear n0_ n1_ n2_ n3_; clear hb hbox hg) | ((with_reducible refine gate_callee (f := 63) rfl ?_); refine goesL_ (some 12) rfl rfl Try.func63 zG83 rfl #[.slice A2 l2.length c2] rfl zG67 ?_; (with_reducible refine (slices_Clone_int_int.calls _ _ l2 t243 _ ?side1 ?side2 A4.out).mono ?_); (case side1 => repeat (first | exact (zw HR2.out HB.out) | (with_reducible refine zs ?_ _) | (with_reducible refine zt ?_ _) | (with_reducible refine zu ?_))); (case side2 => exact HC2.out); rintro e w6 ⟨v244, rfl, ho0, hb⟩; refine ⟨_, rfl, ?_⟩; have n0_ := za (zaj ho0 (zo (by repeat (first | (with_reducible first | exact HB.out | apply zd | apply zb | apply zc | refine zf ?_ GE242.out) | exact HB.out)))); have n1_ := za (zr (g := gb242) (o := .cells #[.slice none 0 0, .int .i64 0, .int .i64 0] 28 (0, 0)) (by (with_reducible repeat (first | refine zh ?_ _ | refine zi ?_ | refine zg ?_ _)); exact BK242.out) hb); have n2_ := za (zq (by repeat (first | (with_reducible first | exact HB.out | apply zd | apply zb | apply zc | refine zf ?_ GE242.out) | exact HB.out)) hb); clear BK242; clear HB; have HO245 := n0_; have BK242 := n1_; have HB := n2_; clear n0_ n1_ n2_; (try clear hb); (try clear hb2); (try clear hk); (try clear hi); (try clear ho0); obtain ⟨Ao7, co7, eo7⟩ := zaf HO245.out; subst eo7) | ((with_reducible refine gate_dst (N := 8) rfl ?_); refine box_event ?hg (N := 8) ?hd (cs := #[.slice none 0 0, .int .i64 0, .int .i64 0]) (t := 28) ?hr ?_; (case hd => rfl); (case hg => rfl); (case hr => first | (go_simp; done) | (go_simp; rfl)); intro gb246 hg w8 hbox hb; have n0_ := za (zp (by (with_reducible repeat (first | apply zk | apply zl | apply zn)); exact HO245.out) hb); have n1_ := za (zr (g := gb242) (o := .cells #[.slice none 0 0, .int .i64 0, .int .i64 0] 28 (0, 0)) (by (with_reducible repeat (first | refine zh ?_ _ | refine zi ?_ | refine zg ?_ _)); exact BK242.out) hb); have n2_ := za (zq (by repeat (first | (with_reducible first | exact HB.out | apply zd | apply zb | apply zc | refine zf ?_ GE242.out) | exact HB.out)) hb); have n3_ := za (hbox); have n4_ := za ((by rw [hg]; exact (zo (by repeat (first | (with_reducible first | exact HB.out | apply zd | apply zb | apply zc | refine zf ?_ GE242.out) | exact HB.out))) : w.heap.size ≤ gb246)); have n5_ := za ((by rw [hg]; exact (zo (by repeat (first | (with_reducible first | exact HB.out | apply zd | apply zb | apply zc | refine zf ?_ GE242.out) | exact HB.out))) : w.heap.size ≤ gb246)); have n6_ := za ((by rw [hg]; exact Nat.ne_of_lt (zad (g := gb242) (o := .cells #[.slice none 0 0, .int .i64 0, .int .i64 0] 28 (0, 0)) (by (with_reducible repeat (first | refine zh ?_ _ | refine zi ?_ | refine zg ?_ _)); exact BK242.out)) : gb242 ≠ gb246)); have n7_ := za ((by rw [hg]; exact Nat.ne_of_gt (zad (g := gb242) (o := .cells #[.slice none 0 0, .int .i64 0, .int .i64 0] 28 (0, 0)) (by (with_reducible repeat (first | refine zh ?_ _ | refine zi ?_ | refine zg ?_ _)); exact BK242.out)) : gb246 ≠ gb242)); clear HO245; clear BK242; clear HB; have HO245 := n0_; have BK242 := n1_; have HB := n2_; have BK246 := n3_; have GW246 := n4_; have GE246 := n5_; have NB242_246 := n6_; have NB246_242 := n7_; clear n0_ n1_ n2_ n3_ n4_ n5_ n6_ n7_; clear hb hbox hg; have hnb9 := NB246_242.out; have hnc9 := NB242_246.out; have hcz10_0 : w8.cell? ⟨gb246, 0, none⟩ = some (.slice none 0 0) := (zm BK246.out 0).trans rfl; have hcz10_1 : w8.cell? ⟨gb246, 1, none⟩ = some (.int .i64 0) := (zm BK246.out 1).trans rfl; have hcz10_2 : w8.cell? ⟨gb246, 2, none⟩ = some (.int .i64 0) := (zm BK246.out 2).trans rfl; have hfz10_0 := zj BK246.out 0; have hfz10_1 := zj BK246.out 1; have hfz10_2 := zj BK246.out 2))
 go_loopg [16] k (fun kq v16 w' => ∃ (x16_1 : Int) (x243001_1 : Int) (x243002_1 : Int) (x247001_1 : Int) (x247002_1 : Int), v16 = .int .i64 x16_1 ∧ Aside0 (impl_sourceOf.l0 kq l0 l1 l2 l2 (l2.length : Int) x16_1 t243 x247001_1 x247002_1 = some (r1, r2, r3, r4)) ∧ Aside0 (kq ≤ k) ∧ Aside0 (Kd.R (Kd.int .i64) 3 w' w.heap.size (fun _ => True) (.slice Ao7 t243.length co7) t243) ∧ Aside0 (w'.heap[gb242]? = some (.cells #[(.slice none 0 0), .int .i64 x243001_1, .int .i64 x243002_1] 28 (0, 0))) ∧ Aside0 (w'.heap[gb246]? = some (.cells #[(.slice Ao7 t243.length co7), .int .i64 x247001_1, .int .i64 x247002_1] 28 (0, 0))) ∧ Aside0 (Below w.heap.size w w'))
 case atStart => exact ⟨(0), (0), (0), (0), (0), zG82, H', ⟨Nat.le_refl _⟩, ⟨by (with_reducible repeat (first | apply zk | apply zl | apply zn)); exact zx (zv (p := ⟨gb246, 2, none⟩) (zv (p := ⟨gb246, 1, none⟩) (zv (p := ⟨gb246, 0, none⟩) (zac HO245.out BK246.out (by decide)) (fun _ hk => hk.2) (.slice Ao7 t243.length co7)) (fun _ hk => hk.2) (.int .i64 0)) (fun _ hk => hk.2) (.int .i64 0)) (fun _ hk => trivial)⟩, ⟨by (with_reducible repeat (first | refine zh ?_ _ | refine zi ?_ | refine zg ?_ _)); refine zag ?_ NB242_246.out _; (with_reducible repeat (first | refine zh ?_ _ | refine zi ?_ | refine zg ?_ _)); refine zag ?_ NB242_246.out _; (with_reducible repeat (first | refine zh ?_ _ | refine zi ?_ | refine zg ?_ _)); refine zag ?_ NB242_246.out _; (with_reducible repeat (first | refine zh ?_ _ | refine zi ?_ | refine zg ?_ _)); exact BK242.out⟩, ⟨by (with_reducible repeat (first | refine zh ?_ _ | refine zi ?_ | refine zg ?_ _)); refine zy (cs := #[.slice Ao7 t243.length co7, .int .i64 0, .int .i64 0]) ?_ 2 _ rfl; (with_reducible repeat (first | refine zh ?_ _ | refine zi ?_ | refine zg ?_ _)); refine zy (cs := #[.slice Ao7 t243.length co7, .int .i64 0, .int .i64 0]) ?_ 1 _ rfl; (with_reducible repeat (first | refine zh ?_ _ | refine zi ?_ | refine zg ?_ _)); refine zy (cs := #[.slice none 0 0, .int .i64 0, .int .i64 0]) ?_ 0 _ rfl; (with_reducible repeat (first | refine zh ?_ _ | refine zi ?_ | refine zg ?_ _)); exact BK246.out⟩, ⟨by repeat (first | (with_reducible first | exact HB.out | apply zd | apply zb | apply zc | refine zf ?_ GE242.out | refine zf ?_ GE246.out) | exact HB.out)⟩⟩
 case round =>
  clear H'
  try clear c1
  try clear c2
  try clear p2
  try clear c4
  try clear c6
  try clear c9
  try clear hcz10_0
  try clear hcz10_1
  try clear hcz10_2
  try clear hfz10_0
  try clear hfz10_1
  try clear hfz10_2
  obtain ⟨x16_1, x243001_1, x243002_1, x247001_1, x247002_1, rfl, HA, HK1, HO_247000, BK242, BK246, HB⟩ := hrel
  cases gk with
  | zero => exact absurd HA.out (by simp [impl_sourceOf.l0])
  | succ k1 =>
   have H := HA.out
   clear HA
   simp only [impl_sourceOf.l0] at H
   by_cases c11 : x16_1 < (l2.length : Int)
   ·rw [if_pos c11] at H
    have c11b0 : decide (x16_1 < (l2.length : Int)) = true := decide_eq_true c11
    clear c11
    by_cases c12 : 0 ≤ x16_1
    ·rw [if_pos c12] at H
     have c12b0 : decide (0 ≤ x16_1) = true := decide_eq_true c12
     clear c12
     by_cases c13 : x16_1 < (l2.length : Int)
     ·rw [if_pos c13] at H
      have c13b0 : decide (x16_1 < (l2.length : Int)) = true := decide_eq_true c13
      clear c13
      by_cases c14 : 0 ≤ (rd l2 x16_1)
      ·rw [if_pos c14] at H
       have c14b0 : decide (0 ≤ (rd l2 x16_1)) = true := decide_eq_true c14
       clear c14
       by_cases c15 : (rd l2 x16_1) < (l0.length : Int)
       ·rw [if_pos c15] at H
        have c15b0 : decide ((rd l2 x16_1) < (l0.length : Int)) = true := decide_eq_true c15
        clear c15
        by_cases c16 : x16_1 < (l1.length : Int)
        ·rw [if_pos c16] at H
         have c16b0 : decide (x16_1 < (l1.length : Int)) = true := decide_eq_true c16
         clear c16
         replace H := Option.bind_eq_some_iff.mp H
         obtain ⟨t250, A170, H⟩ := H
         replace H : (if t250 = true then (if x16_1 ≤ (l2.length : Int) then ((slices_Contains_int_int.f k1 (l2.take (x16_1 : Int).toNat) (rd l2 x16_1)).bind fun t252 => (if t252 = true then (impl_sourceOf.l0 k1 l0 l1 l2 l2 (l2.length : Int) (wrap64 (x16_1 + 1)) t243 x247001_1 x247002_1) else (impl_sourceOf.l0 k1 l0 l1 l2 l2 (l2.length : Int) (wrap64 (x16_1 + 1)) t243 (wrap64 (x247001_1 + 1)) (wrap64 (x247002_1 + ((rd_T75 l0 (rd l2 x16_1)).f1)))))) else (none)) else (some (([] : List Int), 0, 0, false))) = some (r1, r2, r3, r4) := H
         have A17 := za A170
         clear A170
         by_cases c18 : t250 = true
         ·subst c18
          have H1 : (if x16_1 ≤ (l2.length : Int) then ((slices_Contains_int_int.f k1 (l2.take (x16_1 : Int).toNat) (rd l2 x16_1)).bind fun t252 => (if t252 = true then (impl_sourceOf.l0 k1 l0 l1 l2 l2 (l2.length : Int) (wrap64 (x16_1 + 1)) t243 x247001_1 x247002_1) else (impl_sourceOf.l0 k1 l0 l1 l2 l2 (l2.length : Int) (wrap64 (x16_1 + 1)) t243 (wrap64 (x247001_1 + 1)) (wrap64 (x247002_1 + ((rd_T75 l0 (rd l2 x16_1)).f1)))))) else (none)) = some (r1, r2, r3, r4) := by rw [if_pos rfl] at H; exact H
          clear H
          have H := H1
          clear H1
          have c19b0 := eq_true (zO : 0 ≤ x16_1)
          by_cases c20 : x16_1 ≤ (l2.length : Int)
          ·rw [if_pos c20] at H
           have c20b0 := eq_true c20
           have c20b1 : decide (x16_1 ≤ (l2.length : Int)) = true := decide_eq_true c20
           clear c20
           replace H := Option.bind_eq_some_iff.mp H
           obtain ⟨t252, A210, H⟩ := H
           replace H : (if t252 = true then (impl_sourceOf.l0 k1 l0 l1 l2 l2 (l2.length : Int) (wrap64 (x16_1 + 1)) t243 x247001_1 x247002_1) else (impl_sourceOf.l0 k1 l0 l1 l2 l2 (l2.length : Int) (wrap64 (x16_1 + 1)) t243 (wrap64 (x247001_1 + 1)) (wrap64 (x247002_1 + ((rd_T75 l0 (rd l2 x16_1)).f1))))) = some (r1, r2, r3, r4) := H
           have A21 := za A210
           clear A210
           by_cases c22 : t252 = true
           ·subst c22
            have H1 : (impl_sourceOf.l0 k1 l0 l1 l2 l2 (l2.length : Int) (wrap64 (x16_1 + 1)) t243 x247001_1 x247002_1) = some (r1, r2, r3, r4) := by rw [if_pos rfl] at H; exact H
            clear H
            have H := H1
            clear H1
            have H' := za H
            clear H
            have p247 : 0 ≤ (x16_1 : Int) := zO
            have q247 : x16_1 < (l2.length : Int) := zO
            obtain ⟨ad247, e247, hx247_0⟩ := zal HR2.out x16_1 p247 q247
            cases e247
            replace hx247_0 := (HB.out.cell (ze w _ hx247_0)).trans hx247_0
            replace p247 := eq_true p247
            replace q247 := eq_true q247
            try go_wp2
            have n0_ := za (zn HO_247000.out)
            have n1_ := za (zi BK242.out)
            have n2_ := za (zi BK246.out)
            have n3_ := za (zc HB.out)
            clear HO_247000
            clear BK242
            clear BK246
            clear HB
            have HO_247000 := n0_
            have BK242 := n1_
            have BK246 := n2_
            have HB := n3_
            clear n0_ n1_ n2_ n3_
            have p248 : 0 ≤ ((rd l2 x16_1) : Int) := zO
            have q248 : (rd l2 x16_1) < (l0.length : Int) := zO
            obtain ⟨ad248, A248_2, c248_2, e248, hx248_0, hx248_1, hx248_2, hl248_2, hi248_2⟩ := at_T75 HR0.out (rd l2 x16_1) p248 q248
            have hw248_2 := hx248_2
            have hw248_1 := hx248_1
            have hw248_0 := hx248_0
            cases e248
            replace hx248_0 := (HB.out.cell (ze w _ hx248_0)).trans hx248_0
            replace hx248_1 := (HB.out.cell (ze w _ hx248_1)).trans hx248_1
            replace hx248_2 := (HB.out.cell (ze w _ hx248_2)).trans hx248_2
            have HR248_2 := za hi248_2
            have HC248_2 := za hl248_2
            clear hi248_2 hl248_2
            replace p248 := eq_true p248
            replace q248 := eq_true q248
            have p249 : 0 ≤ (x16_1 : Int) := zO
            have q249 : x16_1 < (l1.length : Int) := zO
            obtain ⟨ad249, e249, hx249_0, hx249_1⟩ := at_T76 HR1.out x16_1 p249 q249
            have hw249_1 := hx249_1
            have hw249_0 := hx249_0
            cases e249
            replace hx249_0 := (HB.out.cell (ze w _ hx249_0)).trans hx249_0
            replace hx249_1 := (HB.out.cell (ze w _ hx249_1)).trans hx249_1
            replace p249 := eq_true p249
            replace q249 := eq_true q249
            refine start_ (n := 10) (S := fun w' => w'.cell? (ad248.add (((rd l2 x16_1)).toNat * 3)) = some (.string ((rd_T75 l0 (rd l2 x16_1)).f0)) ∧ w'.cell? ⟨(ad248.add (((rd l2 x16_1)).toNat * 3)).block, (ad248.add (((rd l2 x16_1)).toNat * 3)).off + 1, none⟩ = some (.int .i64 ((rd_T75 l0 (rd l2 x16_1)).f1)) ∧ w'.cell? ⟨(ad248.add (((rd l2 x16_1)).toNat * 3)).block, (ad248.add (((rd l2 x16_1)).toNat * 3)).off + 2, none⟩ = some (.slice A248_2 ((rd_T75 l0 (rd l2 x16_1)).f2).length c248_2) ∧ w'.cell? (ad249.add ((x16_1).toNat * 2)) = some (.string ((rd_T76 l1 x16_1).f0)) ∧ w'.cell? ⟨(ad249.add ((x16_1).toNat * 2)).block, (ad249.add ((x16_1).toNat * 2)).off + 1, none⟩ = some (.int .i64 ((rd_T76 l1 x16_1).f1))) (ds := []) b10A0 zG83 rfl rfl ⟨((HB.out.cell (ze w _ hw248_0)).trans hw248_0), ((HB.out.cell (ze w _ hw248_1)).trans hw248_1), ((HB.out.cell (ze w _ hw248_2)).trans hw248_2), ((HB.out.cell (ze w _ hw249_0)).trans hw249_0), ((HB.out.cell (ze w _ hw249_1)).trans hw249_1)⟩ (fun hHeld => ?_); refine with_tabW impl_sourceOf.tab5 impl_sourceOf.bits5 (fun HT_ HW_ => ?_)
            generalize wr.drew = w23 at HO_247000 BK242 BK246 HB HR248_2 hx248_0 hx248_1 hx248_2 hx249_0 hx249_1 hHeld ⊢
            refine pure_ (i := 0) (N := some 21) (v := ?_) (a' := ?_) b10A1 rfl rfl (any_of HT_.out zG83) (fun _ _ _ h => h) (Or.inl ⟨by rfl, ?_⟩) ?_ ?_
            rotate_left
            ·intro w'
             go_simp
             with_reducible rfl
            rotate_left
            ·simp only [Act.put, List.setIfInBounds_toArray, List.set_cons_zero, List.set_cons_succ, i64_w, i32_w]
             rfl
            refine pure_ (i := 1) (N := some 22) (v := ?_) (a' := ?_) b10A6 rfl rfl (any_of HT_.out zG83) (fun _ _ _ h => h) (Or.inl ⟨by rfl, ?_⟩) ?_ ?_
            rotate_left
            ·intro w'
             go_simp
             with_reducible rfl
            rotate_left
            ·simp only [Act.put, List.setIfInBounds_toArray, List.set_cons_zero, List.set_cons_succ, i64_w, i32_w]
             rfl
            refine pure_ (i := 2) (N := some 23) (v := ?_) (a' := ?_) b10A7 rfl rfl (any_of HT_.out zG83) (fun _ _ _ h => h) (Or.inl ⟨by rfl, ?_⟩) ?_ ?_
            rotate_left
            ·intro w'
             go_simp
             with_reducible rfl
            rotate_left
            ·simp only [Act.put, List.setIfInBounds_toArray, List.set_cons_zero, List.set_cons_succ, i64_w, i32_w]
             rfl
            refine pure_ (i := 4) (N := some 25) (v := ?_) (a' := ?_) b10A8 rfl rfl (any_of HT_.out zG83) (fun _ _ _ h => h) (Or.inl ⟨by rfl, ?_⟩) ?_ ?_
            rotate_left
            ·intro w'
             go_simp
             with_reducible rfl
            rotate_left
            ·simp only [Act.put, List.setIfInBounds_toArray, List.set_cons_zero, List.set_cons_succ, i64_w, i32_w]
             rfl
            refine pure_ (i := 5) (N := some 26) (v := ?_) (a' := ?_) b10A9 rfl rfl (any_of HT_.out zG83) (fun _ _ _ h => h) (Or.inl ⟨by rfl, ?_⟩) ?_ ?_
            rotate_left
            ·intro w'
             go_simp
             with_reducible rfl
            rotate_left
            ·simp only [Act.put, List.setIfInBounds_toArray, List.set_cons_zero, List.set_cons_succ, i64_w, i32_w]
             rfl
            refine pure_ (i := 6) (N := some 27) (v := ?_) (a' := ?_) b10A10 rfl rfl (any_of HT_.out zG83) (fun _ _ _ h => h) (Or.inl ⟨by rfl, ?_⟩) ?_ ?_
            rotate_left
            ·intro w'
             go_simp
             with_reducible rfl
            rotate_left
            ·simp only [Act.put, List.setIfInBounds_toArray, List.set_cons_zero, List.set_cons_succ, i64_w, i32_w]
             rfl
            refine take_ (i := 3) (N := some 24) (v := ?_) (a' := ?_) b10A2 rfl rfl (take_ofW HT_.out HW_.out zG83) (fun _ _ _ h => h) (Or.inl ⟨by rfl, ?_⟩) hHeld ?_ ?_
            rotate_left
            ·rintro w' ⟨s0, s1, s2, s3, s4⟩
             go_simp
             with_reducible rfl
            rotate_left
            ·simp only [Act.put, List.setIfInBounds_toArray, List.set_cons_zero, List.set_cons_succ, i64_w, i32_w]
             rfl
            refine take_ (i := 7) (N := some 28) (v := ?_) (a' := ?_) b10A3 rfl rfl (take_ofW HT_.out HW_.out zG83) (fun _ _ _ h => h) (Or.inl ⟨by rfl, ?_⟩) hHeld ?_ ?_
            rotate_left
            ·rintro w' ⟨s0, s1, s2, s3, s4⟩
             go_simp
             with_reducible rfl
            rotate_left
            ·simp only [Act.put, List.setIfInBounds_toArray, List.set_cons_zero, List.set_cons_succ, i64_w, i32_w]
             rfl
            refine one_ (i := 8) (N := some 29) b10A4 rfl rfl (one_of HT_.out zG83) (by decide) (fun K hK => ?_)
            refine goes_ Try.func75 zG83 rfl #[.agg #[.string ((rd_T75 l0 (rd l2 x16_1)).f0), .int .i64 ((rd_T75 l0 (rd l2 x16_1)).f1), .slice A248_2 ((rd_T75 l0 (rd l2 x16_1)).f2).length c248_2], .agg #[.string ((rd_T76 l1 x16_1).f0), .int .i64 ((rd_T76 l1 x16_1).f1)]] (by rfl) rfl rfl zG67 ?_
            with_reducible refine (impl_Source_gives.calls k1 ((rd_T75 l0 (rd l2 x16_1)).f0) ((rd_T75 l0 (rd l2 x16_1)).f1) _ _ ((rd_T75 l0 (rd l2 x16_1)).f2) ((rd_T76 l1 x16_1).f0) ((rd_T76 l1 x16_1).f1) true _ ?side1 ?side2 A17.out).mono ?_
            (case side1 => repeat (first | exact (zw HR248_2.out HB.out) | (with_reducible refine zs ?_ _) | (with_reducible refine zt ?_ _) | (with_reducible refine zu ?_)))
            (case side2 => exact HC248_2.out)
            rintro e w24 ⟨rfl, hb⟩
            refine ⟨_, rfl, ?_⟩
            have n0_ := za (zp (by (with_reducible repeat (first | apply zk | apply zl | apply zn)); exact HO_247000.out) hb)
            have n1_ := za (zr (g := gb242) (o := .cells #[.slice none 0 0, .int .i64 x243001_1, .int .i64 x243002_1] 28 (0, 0)) (by (with_reducible repeat (first | refine zh ?_ _ | refine zi ?_ | refine zg ?_ _)); exact BK242.out) hb)
            have n2_ := za (zr (g := gb246) (o := .cells #[.slice Ao7 t243.length co7, .int .i64 x247001_1, .int .i64 x247002_1] 28 (0, 0)) (by (with_reducible repeat (first | refine zh ?_ _ | refine zi ?_ | refine zg ?_ _)); exact BK246.out) hb)
            have n3_ := za (zq (by repeat (first | (with_reducible first | exact HB.out | apply zd | apply zb | apply zc | refine zf ?_ GE242.out | refine zf ?_ GE246.out) | exact HB.out)) hb)
            clear HO_247000
            clear BK242
            clear BK246
            clear HB
            have HO_247000 := n0_
            have BK242 := n1_
            have BK246 := n2_
            have HB := n3_
            clear n0_ n1_ n2_ n3_
            (try clear hb)
            (try clear hb2)
            (try clear hk)
            (try clear hi)
            refine hK.out _ _ ⟨((HB.out.cell (ze w _ hw248_0)).trans hw248_0), ((HB.out.cell (ze w _ hw248_1)).trans hw248_1), ((HB.out.cell (ze w _ hw248_2)).trans hw248_2), ((HB.out.cell (ze w _ hw249_0)).trans hw249_0), ((HB.out.cell (ze w _ hw249_1)).trans hw249_1)⟩ (fun hHeld => ?_)
            clear hK K
            refine norm_ (a' := ?_) ?_ ?_
            rotate_left
            ·show Act.put _ (some 29) _ = _
             simp only [Act.put, List.setIfInBounds_toArray, List.set_cons_zero, List.set_cons_succ, i64_w, i32_w]
             rfl
            refine pure_ (i := 9) (N := some 30) (v := ?_) (a' := ?_) b10A5 rfl rfl (any_of HT_.out zG83) (fun _ _ _ h => h) (Or.inl ⟨by rfl, ?_⟩) ?_ ?_
            rotate_left
            ·intro w'
             go_simp
             with_reducible rfl
            rotate_left
            ·simp only [Act.put, List.setIfInBounds_toArray, List.set_cons_zero, List.set_cons_succ, i64_w, i32_w]
             rfl
            refine done_ (done_of HT_.out zG83) ?_
            obtain ⟨i025, hi025, _, hsz25, _⟩ := info_parts info3
            obtain ⟨hcut25, hA25, hC25⟩ := print_take_of (P := Try.prog) (Value.int .i64) 0 24 3 .i64 Try.underlying24 hi025 hsz25 (some ad247) c2 l2 x16_1 zO zO HC2.out
            have HR251 := za (zbk (h1 := fun _ => rfl) (hA25 _ (zbl HR2.out)))
            have HC251 := za hC25
            clear hA25 hC25 hi025 hsz25
            try go_wp2_with (first | ((with_reducible refine gate_callee (f := 76) rfl ?_); refine goesL_ (some 36) rfl rfl Try.func76 zG83 rfl #[.slice (some ad247) (l2.take (x16_1 : Int).toNat).length c2, .int .i64 (rd l2 x16_1)] rfl (by (try simp only [List.map_toArray, List.map_cons, List.map_nil]); first | done | (rw [show (l2.take (x16_1 : Int).toNat).length = x16_1.toNat from (by rw [List.length_take]; have h_ : (x16_1 : Int) ≤ (l2.length : Int) := zO; omega)] <;> rfl) | rfl | (simp only [List.length_drop, List.length_take]; rfl)) ?_; (with_reducible refine (slices_Contains_int_int.calls k1 _ _ (l2.take (x16_1 : Int).toNat) (rd l2 x16_1) true _ ?side1 ?side2 A21.out).mono ?_); (case side1 => repeat (first | exact (zw HR251.out HB.out) | (with_reducible refine zs ?_ _) | (with_reducible refine zt ?_ _) | (with_reducible refine zu ?_))); (case side2 => exact HC251.out); rintro e w' ⟨rfl, ⟨nd, rfl⟩⟩; refine ⟨_, rfl, ?_⟩))
            go_roundg k1
            case measure => have := HK1.out; omega
            case rel => exact ⟨(wrap64 (x16_1 + 1)), (x243001_1), (x243002_1), (x247001_1), (x247002_1), zG82, H', ⟨by have := HK1.out; omega⟩, ⟨by (with_reducible repeat (first | apply zk | apply zl | apply zn)); exact HO_247000.out⟩, ⟨by (with_reducible repeat (first | refine zh ?_ _ | refine zi ?_ | refine zg ?_ _)); exact BK242.out⟩, ⟨by (with_reducible repeat (first | refine zh ?_ _ | refine zi ?_ | refine zg ?_ _)); exact BK246.out⟩, ⟨by repeat (first | (with_reducible first | exact HB.out | apply zd | apply zb | apply zc | refine zf ?_ GE242.out | refine zf ?_ GE246.out) | exact HB.out)⟩⟩
           ·replace c22 := Bool.eq_false_iff.mpr c22
            subst c22
            have H1 : (impl_sourceOf.l0 k1 l0 l1 l2 l2 (l2.length : Int) (wrap64 (x16_1 + 1)) t243 (wrap64 (x247001_1 + 1)) (wrap64 (x247002_1 + ((rd_T75 l0 (rd l2 x16_1)).f1)))) = some (r1, r2, r3, r4) := by rw [if_neg (show ¬ (false = true) by decide)] at H; exact H
            clear H
            have H := H1
            clear H1
            have H' := za H
            clear H
            have p247 : 0 ≤ (x16_1 : Int) := zO
            have q247 : x16_1 < (l2.length : Int) := zO
            obtain ⟨ad247, e247, hx247_0⟩ := zal HR2.out x16_1 p247 q247
            cases e247
            replace hx247_0 := (HB.out.cell (ze w _ hx247_0)).trans hx247_0
            replace p247 := eq_true p247
            replace q247 := eq_true q247
            try go_wp2
            have n0_ := za (zn HO_247000.out)
            have n1_ := za (zi BK242.out)
            have n2_ := za (zi BK246.out)
            have n3_ := za (zc HB.out)
            clear HO_247000
            clear BK242
            clear BK246
            clear HB
            have HO_247000 := n0_
            have BK242 := n1_
            have BK246 := n2_
            have HB := n3_
            clear n0_ n1_ n2_ n3_
            have p248 : 0 ≤ ((rd l2 x16_1) : Int) := zO
            have q248 : (rd l2 x16_1) < (l0.length : Int) := zO
            obtain ⟨ad248, A248_2, c248_2, e248, hx248_0, hx248_1, hx248_2, hl248_2, hi248_2⟩ := at_T75 HR0.out (rd l2 x16_1) p248 q248
            have hw248_2 := hx248_2
            have hw248_1 := hx248_1
            have hw248_0 := hx248_0
            cases e248
            replace hx248_0 := (HB.out.cell (ze w _ hx248_0)).trans hx248_0
            replace hx248_1 := (HB.out.cell (ze w _ hx248_1)).trans hx248_1
            replace hx248_2 := (HB.out.cell (ze w _ hx248_2)).trans hx248_2
            have HR248_2 := za hi248_2
            have HC248_2 := za hl248_2
            clear hi248_2 hl248_2
            replace p248 := eq_true p248
            replace q248 := eq_true q248
            have p249 : 0 ≤ (x16_1 : Int) := zO
            have q249 : x16_1 < (l1.length : Int) := zO
            obtain ⟨ad249, e249, hx249_0, hx249_1⟩ := at_T76 HR1.out x16_1 p249 q249
            have hw249_1 := hx249_1
            have hw249_0 := hx249_0
            cases e249
            replace hx249_0 := (HB.out.cell (ze w _ hx249_0)).trans hx249_0
            replace hx249_1 := (HB.out.cell (ze w _ hx249_1)).trans hx249_1
            replace p249 := eq_true p249
            replace q249 := eq_true q249
            refine start_ (n := 10) (S := fun w' => w'.cell? (ad248.add (((rd l2 x16_1)).toNat * 3)) = some (.string ((rd_T75 l0 (rd l2 x16_1)).f0)) ∧ w'.cell? ⟨(ad248.add (((rd l2 x16_1)).toNat * 3)).block, (ad248.add (((rd l2 x16_1)).toNat * 3)).off + 1, none⟩ = some (.int .i64 ((rd_T75 l0 (rd l2 x16_1)).f1)) ∧ w'.cell? ⟨(ad248.add (((rd l2 x16_1)).toNat * 3)).block, (ad248.add (((rd l2 x16_1)).toNat * 3)).off + 2, none⟩ = some (.slice A248_2 ((rd_T75 l0 (rd l2 x16_1)).f2).length c248_2) ∧ w'.cell? (ad249.add ((x16_1).toNat * 2)) = some (.string ((rd_T76 l1 x16_1).f0)) ∧ w'.cell? ⟨(ad249.add ((x16_1).toNat * 2)).block, (ad249.add ((x16_1).toNat * 2)).off + 1, none⟩ = some (.int .i64 ((rd_T76 l1 x16_1).f1))) (ds := []) b10A0 zG83 rfl rfl ⟨((HB.out.cell (ze w _ hw248_0)).trans hw248_0), ((HB.out.cell (ze w _ hw248_1)).trans hw248_1), ((HB.out.cell (ze w _ hw248_2)).trans hw248_2), ((HB.out.cell (ze w _ hw249_0)).trans hw249_0), ((HB.out.cell (ze w _ hw249_1)).trans hw249_1)⟩ (fun hHeld => ?_); refine with_tabW impl_sourceOf.tab5 impl_sourceOf.bits5 (fun HT_ HW_ => ?_)
            generalize wr.drew = w26 at HO_247000 BK242 BK246 HB HR248_2 hx248_0 hx248_1 hx248_2 hx249_0 hx249_1 hHeld ⊢
            refine pure_ (i := 0) (N := some 21) (v := ?_) (a' := ?_) b10A1 rfl rfl (any_of HT_.out zG83) (fun _ _ _ h => h) (Or.inl ⟨by rfl, ?_⟩) ?_ ?_
            rotate_left
            ·intro w'
             go_simp
             with_reducible rfl
            rotate_left
            ·simp only [Act.put, List.setIfInBounds_toArray, List.set_cons_zero, List.set_cons_succ, i64_w, i32_w]
             rfl
            refine pure_ (i := 1) (N := some 22) (v := ?_) (a' := ?_) b10A6 rfl rfl (any_of HT_.out zG83) (fun _ _ _ h => h) (Or.inl ⟨by rfl, ?_⟩) ?_ ?_
            rotate_left
            ·intro w'
             go_simp
             with_reducible rfl
            rotate_left
            ·simp only [Act.put, List.setIfInBounds_toArray, List.set_cons_zero, List.set_cons_succ, i64_w, i32_w]
             rfl
            refine pure_ (i := 2) (N := some 23) (v := ?_) (a' := ?_) b10A7 rfl rfl (any_of HT_.out zG83) (fun _ _ _ h => h) (Or.inl ⟨by rfl, ?_⟩) ?_ ?_
            rotate_left
            ·intro w'
             go_simp
             with_reducible rfl
            rotate_left
            ·simp only [Act.put, List.setIfInBounds_toArray, List.set_cons_zero, List.set_cons_succ, i64_w, i32_w]
             rfl
            refine pure_ (i := 4) (N := some 25) (v := ?_) (a' := ?_) b10A8 rfl rfl (any_of HT_.out zG83) (fun _ _ _ h => h) (Or.inl ⟨by rfl, ?_⟩) ?_ ?_
            rotate_left
            ·intro w'
             go_simp
             with_reducible rfl
            rotate_left
            ·simp only [Act.put, List.setIfInBounds_toArray, List.set_cons_zero, List.set_cons_succ, i64_w, i32_w]
             rfl
            refine pure_ (i := 5) (N := some 26) (v := ?_) (a' := ?_) b10A9 rfl rfl (any_of HT_.out zG83) (fun _ _ _ h => h) (Or.inl ⟨by rfl, ?_⟩) ?_ ?_
            rotate_left
            ·intro w'
             go_simp
             with_reducible rfl
            rotate_left
            ·simp only [Act.put, List.setIfInBounds_toArray, List.set_cons_zero, List.set_cons_succ, i64_w, i32_w]
             rfl
            refine pure_ (i := 6) (N := some 27) (v := ?_) (a' := ?_) b10A10 rfl rfl (any_of HT_.out zG83) (fun _ _ _ h => h) (Or.inl ⟨by rfl, ?_⟩) ?_ ?_
            rotate_left
            ·intro w'
             go_simp
             with_reducible rfl
            rotate_left
            ·simp only [Act.put, List.setIfInBounds_toArray, List.set_cons_zero, List.set_cons_succ, i64_w, i32_w]
             rfl
            refine take_ (i := 3) (N := some 24) (v := ?_) (a' := ?_) b10A2 rfl rfl (take_ofW HT_.out HW_.out zG83) (fun _ _ _ h => h) (Or.inl ⟨by rfl, ?_⟩) hHeld ?_ ?_
            rotate_left
            ·rintro w' ⟨s0, s1, s2, s3, s4⟩
             go_simp
             with_reducible rfl
            rotate_left
            ·simp only [Act.put, List.setIfInBounds_toArray, List.set_cons_zero, List.set_cons_succ, i64_w, i32_w]
             rfl
            refine take_ (i := 7) (N := some 28) (v := ?_) (a' := ?_) b10A3 rfl rfl (take_ofW HT_.out HW_.out zG83) (fun _ _ _ h => h) (Or.inl ⟨by rfl, ?_⟩) hHeld ?_ ?_
            rotate_left
            ·rintro w' ⟨s0, s1, s2, s3, s4⟩
             go_simp
             with_reducible rfl
            rotate_left
            ·simp only [Act.put, List.setIfInBounds_toArray, List.set_cons_zero, List.set_cons_succ, i64_w, i32_w]
             rfl
            refine one_ (i := 8) (N := some 29) b10A4 rfl rfl (one_of HT_.out zG83) (by decide) (fun K hK => ?_)
            refine goes_ Try.func75 zG83 rfl #[.agg #[.string ((rd_T75 l0 (rd l2 x16_1)).f0), .int .i64 ((rd_T75 l0 (rd l2 x16_1)).f1), .slice A248_2 ((rd_T75 l0 (rd l2 x16_1)).f2).length c248_2], .agg #[.string ((rd_T76 l1 x16_1).f0), .int .i64 ((rd_T76 l1 x16_1).f1)]] (by rfl) rfl rfl zG67 ?_
            with_reducible refine (impl_Source_gives.calls k1 ((rd_T75 l0 (rd l2 x16_1)).f0) ((rd_T75 l0 (rd l2 x16_1)).f1) _ _ ((rd_T75 l0 (rd l2 x16_1)).f2) ((rd_T76 l1 x16_1).f0) ((rd_T76 l1 x16_1).f1) true _ ?side1 ?side2 A17.out).mono ?_
            (case side1 => repeat (first | exact (zw HR248_2.out HB.out) | (with_reducible refine zs ?_ _) | (with_reducible refine zt ?_ _) | (with_reducible refine zu ?_)))
            (case side2 => exact HC248_2.out)
            rintro e w27 ⟨rfl, hb⟩
            refine ⟨_, rfl, ?_⟩
            have n0_ := za (zp (by (with_reducible repeat (first | apply zk | apply zl | apply zn)); exact HO_247000.out) hb)
            have n1_ := za (zr (g := gb242) (o := .cells #[.slice none 0 0, .int .i64 x243001_1, .int .i64 x243002_1] 28 (0, 0)) (by (with_reducible repeat (first | refine zh ?_ _ | refine zi ?_ | refine zg ?_ _)); exact BK242.out) hb)
            have n2_ := za (zr (g := gb246) (o := .cells #[.slice Ao7 t243.length co7, .int .i64 x247001_1, .int .i64 x247002_1] 28 (0, 0)) (by (with_reducible repeat (first | refine zh ?_ _ | refine zi ?_ | refine zg ?_ _)); exact BK246.out) hb)
            have n3_ := za (zq (by repeat (first | (with_reducible first | exact HB.out | apply zd | apply zb | apply zc | refine zf ?_ GE242.out | refine zf ?_ GE246.out) | exact HB.out)) hb)
            clear HO_247000
            clear BK242
            clear BK246
            clear HB
            have HO_247000 := n0_
            have BK242 := n1_
            have BK246 := n2_
            have HB := n3_
            clear n0_ n1_ n2_ n3_
            (try clear hb)
            (try clear hb2)
            (try clear hk)
            (try clear hi)
            refine hK.out _ _ ⟨((HB.out.cell (ze w _ hw248_0)).trans hw248_0), ((HB.out.cell (ze w _ hw248_1)).trans hw248_1), ((HB.out.cell (ze w _ hw248_2)).trans hw248_2), ((HB.out.cell (ze w _ hw249_0)).trans hw249_0), ((HB.out.cell (ze w _ hw249_1)).trans hw249_1)⟩ (fun hHeld => ?_)
            clear hK K
            refine norm_ (a' := ?_) ?_ ?_
            rotate_left
            ·show Act.put _ (some 29) _ = _
             simp only [Act.put, List.setIfInBounds_toArray, List.set_cons_zero, List.set_cons_succ, i64_w, i32_w]
             rfl
            refine pure_ (i := 9) (N := some 30) (v := ?_) (a' := ?_) b10A5 rfl rfl (any_of HT_.out zG83) (fun _ _ _ h => h) (Or.inl ⟨by rfl, ?_⟩) ?_ ?_
            rotate_left
            ·intro w'
             go_simp
             with_reducible rfl
            rotate_left
            ·simp only [Act.put, List.setIfInBounds_toArray, List.set_cons_zero, List.set_cons_succ, i64_w, i32_w]
             rfl
            refine done_ (done_of HT_.out zG83) ?_
            obtain ⟨i028, hi028, _, hsz28, _⟩ := info_parts info3
            obtain ⟨hcut28, hA28, hC28⟩ := print_take_of (P := Try.prog) (Value.int .i64) 0 24 3 .i64 Try.underlying24 hi028 hsz28 (some ad247) c2 l2 x16_1 zO zO HC2.out
            have HR251 := za (zbk (h1 := fun _ => rfl) (hA28 _ (zbl HR2.out)))
            have HC251 := za hC28
            clear hA28 hC28 hi028 hsz28
            try go_wp2_with (first | ((with_reducible refine gate_callee (f := 76) rfl ?_); refine goesL_ (some 36) rfl rfl Try.func76 zG83 rfl #[.slice (some ad247) (l2.take (x16_1 : Int).toNat).length c2, .int .i64 (rd l2 x16_1)] rfl (by (try simp only [List.map_toArray, List.map_cons, List.map_nil]); first | done | (rw [show (l2.take (x16_1 : Int).toNat).length = x16_1.toNat from (by rw [List.length_take]; have h_ : (x16_1 : Int) ≤ (l2.length : Int) := zO; omega)] <;> rfl) | rfl | (simp only [List.length_drop, List.length_take]; rfl)) ?_; (with_reducible refine (slices_Contains_int_int.calls k1 _ _ (l2.take (x16_1 : Int).toNat) (rd l2 x16_1) false _ ?side1 ?side2 A21.out).mono ?_); (case side1 => repeat (first | exact (zw HR251.out HB.out) | (with_reducible refine zs ?_ _) | (with_reducible refine zt ?_ _) | (with_reducible refine zu ?_))); (case side2 => exact HC251.out); rintro e w' ⟨rfl, ⟨nd, rfl⟩⟩; refine ⟨_, rfl, ?_⟩; (try (rw [drewN_self w27]; generalize hq_ : World.drewN w27 _ = w27; have n0_ : Aside0 (Kd.R (Kd.int .i64) 3 w27 w.heap.size (fun _ => True) (.slice Ao7 t243.length co7) t243) := ⟨by rw [← hq_]; exact (by (with_reducible repeat (first | apply zk | apply zl | apply zn)); exact HO_247000.out)⟩; have n1_ : Aside0 (w27.heap[gb242]? = some (.cells #[.slice none 0 0, .int .i64 x243001_1, .int .i64 x243002_1] 28 (0, 0))) := ⟨by rw [← hq_]; exact (by (with_reducible repeat (first | refine zh ?_ _ | refine zi ?_ | refine zg ?_ _)); exact BK242.out)⟩; have n2_ : Aside0 (w27.heap[gb246]? = some (.cells #[.slice Ao7 t243.length co7, .int .i64 x247001_1, .int .i64 x247002_1] 28 (0, 0))) := ⟨by rw [← hq_]; exact (by (with_reducible repeat (first | refine zh ?_ _ | refine zi ?_ | refine zg ?_ _)); exact BK246.out)⟩; have n3_ : Aside0 (Below w.heap.size w w27) := ⟨by rw [← hq_]; exact (by repeat (first | (with_reducible first | exact HB.out | apply zd | apply zb | apply zc | refine zf ?_ GE242.out | refine zf ?_ GE246.out) | exact HB.out))⟩; clear HO_247000 BK242 BK246 HB hq_; have HO_247000 := n0_; have BK242 := n1_; have BK246 := n2_; have HB := n3_; clear n0_ n1_ n2_ n3_)); (try have hcu29_0 : w27.cell? ⟨gb242, 0, none⟩ = some (.slice none 0 0) := (zm BK242.out 0).trans rfl); (try have hcu29_1 : w27.cell? ⟨gb242, 1, none⟩ = some (.int .i64 x243001_1) := (zm BK242.out 1).trans rfl); (try have hcu29_2 : w27.cell? ⟨gb242, 2, none⟩ = some (.int .i64 x243002_1) := (zm BK242.out 2).trans rfl); (try have hfcu29_0 := zj BK242.out 0); (try have hfcu29_1 := zj BK242.out 1); (try have hfcu29_2 := zj BK242.out 2); (try have hcu30_0 : w27.cell? ⟨gb246, 0, none⟩ = some (.slice Ao7 t243.length co7) := (zm BK246.out 0).trans rfl); (try have hcu30_1 : w27.cell? ⟨gb246, 1, none⟩ = some (.int .i64 x247001_1) := (zm BK246.out 1).trans rfl); (try have hcu30_2 : w27.cell? ⟨gb246, 2, none⟩ = some (.int .i64 x247002_1) := (zm BK246.out 2).trans rfl); (try have hfcu30_0 := zj BK246.out 0); (try have hfcu30_1 := zj BK246.out 1); (try have hfcu30_2 := zj BK246.out 2); have hnb31 := NB246_242.out; have hnc31 := NB242_246.out; have hcz32_0 : w27.cell? ⟨gb246, 0, none⟩ = some (.slice Ao7 t243.length co7) := (zm BK246.out 0).trans rfl; have hcz32_1 : w27.cell? ⟨gb246, 1, none⟩ = some (.int .i64 x247001_1) := (zm BK246.out 1).trans rfl; have hcz32_2 : w27.cell? ⟨gb246, 2, none⟩ = some (.int .i64 x247002_1) := (zm BK246.out 2).trans rfl; have hfz32_0 := zj BK246.out 0; have hfz32_1 := zj BK246.out 1; have hfz32_2 := zj BK246.out 2))
            have n0_ : Aside0 (Kd.R (Kd.int .i64) 3 (w27.setCell ⟨gb246, 1, none⟩ (.int .i64 (wrap64 (x247001_1 + 1)))) w.heap.size (fun _ => True) (.slice Ao7 t243.length co7) t243) := ⟨by (with_reducible repeat (first | apply zk | apply zl | apply zn)); exact zx (zv (p := ⟨gb246, 1, none⟩) (zac HO_247000.out BK246.out (by decide)) (fun _ hk => hk.2) (.int .i64 (wrap64 (x247001_1 + 1)))) (fun _ hk => trivial)⟩
            have n1_ : Aside0 ((w27.setCell ⟨gb246, 1, none⟩ (.int .i64 (wrap64 (x247001_1 + 1)))).heap[gb242]? = some (.cells #[.slice none 0 0, .int .i64 x243001_1, .int .i64 x243002_1] 28 (0, 0))) := ⟨by (with_reducible repeat (first | refine zh ?_ _ | refine zi ?_ | refine zg ?_ _)); refine zag ?_ NB242_246.out _; (with_reducible repeat (first | refine zh ?_ _ | refine zi ?_ | refine zg ?_ _)); exact BK242.out⟩
            have n2_ : Aside0 ((w27.setCell ⟨gb246, 1, none⟩ (.int .i64 (wrap64 (x247001_1 + 1)))).heap[gb246]? = some (.cells #[.slice Ao7 t243.length co7, .int .i64 (wrap64 (x247001_1 + 1)), .int .i64 x247002_1] 28 (0, 0))) := ⟨by (with_reducible repeat (first | refine zh ?_ _ | refine zi ?_ | refine zg ?_ _)); refine zy (cs := #[.slice Ao7 t243.length co7, .int .i64 x247001_1, .int .i64 x247002_1]) ?_ 1 _ rfl; (with_reducible repeat (first | refine zh ?_ _ | refine zi ?_ | refine zg ?_ _)); exact BK246.out⟩
            have n3_ : Aside0 (Below w.heap.size w (w27.setCell ⟨gb246, 1, none⟩ (.int .i64 (wrap64 (x247001_1 + 1))))) := ⟨by repeat (first | (with_reducible first | exact HB.out | apply zd | apply zb | apply zc | refine zf ?_ GE242.out | refine zf ?_ GE246.out) | exact HB.out)⟩
            (try clear HO_247000)
            (try clear BK242)
            (try clear BK246)
            (try clear HB)
            generalize (w27.setCell ⟨gb246, 1, none⟩ (.int .i64 (wrap64 (x247001_1 + 1)))) = w33 at n0_ n1_ n2_ n3_ ⊢
            have HO_247000 := n0_
            have BK242 := n1_
            have BK246 := n2_
            have HB := n3_
            clear n0_ n1_ n2_ n3_
            have n0_ := za (zn HO_247000.out)
            have n1_ := za (zi BK242.out)
            have n2_ := za (zi BK246.out)
            have n3_ := za (zc HB.out)
            clear HO_247000
            clear BK242
            clear BK246
            clear HB
            have HO_247000 := n0_
            have BK242 := n1_
            have BK246 := n2_
            have HB := n3_
            clear n0_ n1_ n2_ n3_
            have p253 : 0 ≤ ((rd l2 x16_1) : Int) := zO
            have q253 : (rd l2 x16_1) < (l0.length : Int) := zO
            obtain ⟨ad253, A253_2, c253_2, e253, hx253_0, hx253_1, hx253_2, hl253_2, hi253_2⟩ := at_T75 HR0.out (rd l2 x16_1) p253 q253
            have hw253_2 := hx253_2
            have hw253_1 := hx253_1
            have hw253_0 := hx253_0
            obtain rfl : ad248 = ad253 := (by injection e253)
            replace hx253_0 := (HB.out.cell (ze w _ hx253_0)).trans hx253_0
            replace hx253_1 := (HB.out.cell (ze w _ hx253_1)).trans hx253_1
            replace hx253_2 := (HB.out.cell (ze w _ hx253_2)).trans hx253_2
            have HR253_2 := za hi253_2
            have HC253_2 := za hl253_2
            clear hi253_2 hl253_2
            replace p253 := eq_true p253
            replace q253 := eq_true q253
            refine start_ (n := 10) (S := fun w' => w'.cell? ⟨gb246, 0, none⟩ = some (.slice Ao7 t243.length co7) ∧ w'.cell? ⟨gb246, 1, none⟩ = some (.int .i64 (wrap64 (x247001_1 + 1))) ∧ w'.cell? ⟨gb246, 2, none⟩ = some (.int .i64 x247002_1) ∧ w'.cell? (ad248.add (((rd l2 x16_1)).toNat * 3)) = some (.string ((rd_T75 l0 (rd l2 x16_1)).f0)) ∧ w'.cell? ⟨(ad248.add (((rd l2 x16_1)).toNat * 3)).block, (ad248.add (((rd l2 x16_1)).toNat * 3)).off + 1, none⟩ = some (.int .i64 ((rd_T75 l0 (rd l2 x16_1)).f1)) ∧ w'.cell? ⟨(ad248.add (((rd l2 x16_1)).toNat * 3)).block, (ad248.add (((rd l2 x16_1)).toNat * 3)).off + 2, none⟩ = some (.slice A253_2 ((rd_T75 l0 (rd l2 x16_1)).f2).length c253_2)) (ds := [9]) b10A0 zG83 rfl rfl ⟨(zm BK246.out 0).trans rfl, (zm BK246.out 1).trans rfl, (zm BK246.out 2).trans rfl, ((HB.out.cell (ze w _ hw253_0)).trans hw253_0), ((HB.out.cell (ze w _ hw253_1)).trans hw253_1), ((HB.out.cell (ze w _ hw253_2)).trans hw253_2)⟩ (fun hHeld => ?_); refine with_tabW impl_sourceOf.tab9 impl_sourceOf.bits9 (fun HT_ HW_ => ?_)
            generalize w33.drew = w34 at HO_247000 BK242 BK246 HB HR253_2 hx253_0 hx253_1 hx253_2 hHeld ⊢
            refine pure_ (i := 0) (N := some 42) (v := ?_) (a' := ?_) b10A1 rfl rfl (any_of HT_.out zG83) (fun _ _ _ h => h) (Or.inl ⟨by rfl, ?_⟩) ?_ ?_
            rotate_left
            ·intro w'
             go_simp
             with_reducible rfl
            rotate_left
            ·simp only [Act.put, List.setIfInBounds_toArray, List.set_cons_zero, List.set_cons_succ, i64_w, i32_w]
             rfl
            refine pure_ (i := 2) (N := some 44) (v := ?_) (a' := ?_) #[true, false, true, false, false, false, false, false, false, false] rfl rfl (any_of HT_.out zG83) (fun _ _ _ h => h) (Or.inl ⟨by rfl, ?_⟩) ?_ ?_
            rotate_left
            ·intro w'
             go_simp
             with_reducible rfl
            rotate_left
            ·simp only [Act.put, List.setIfInBounds_toArray, List.set_cons_zero, List.set_cons_succ, i64_w, i32_w]
             rfl
            refine pure_ (i := 3) (N := some 45) (v := ?_) (a' := ?_) #[true, false, true, true, false, false, false, false, false, false] rfl rfl (any_of HT_.out zG83) (fun _ _ _ h => h) (Or.inl ⟨by rfl, ?_⟩) ?_ ?_
            rotate_left
            ·intro w'
             go_simp
             with_reducible rfl
            rotate_left
            ·simp only [Act.put, List.setIfInBounds_toArray, List.set_cons_zero, List.set_cons_succ, i64_w, i32_w]
             rfl
            refine pure_ (i := 4) (N := some 46) (v := ?_) (a' := ?_) #[true, false, true, true, true, false, false, false, false, false] rfl rfl (any_of HT_.out zG83) (fun _ _ _ h => h) (Or.inl ⟨by rfl, ?_⟩) ?_ ?_
            rotate_left
            ·intro w'
             go_simp
             with_reducible rfl
            rotate_left
            ·simp only [Act.put, List.setIfInBounds_toArray, List.set_cons_zero, List.set_cons_succ, i64_w, i32_w]
             rfl
            refine pure_ (i := 5) (N := some 47) (v := ?_) (a' := ?_) #[true, false, true, true, true, true, false, false, false, false] rfl rfl (any_of HT_.out zG83) (fun _ _ _ h => h) (Or.inl ⟨by rfl, ?_⟩) ?_ ?_
            rotate_left
            ·intro w'
             go_simp
             with_reducible rfl
            rotate_left
            ·simp only [Act.put, List.setIfInBounds_toArray, List.set_cons_zero, List.set_cons_succ, i64_w, i32_w]
             rfl
            refine take_ (i := 1) (N := some 43) (v := ?_) (a' := ?_) #[true, true, true, true, true, true, false, false, false, false] rfl rfl (take_ofW HT_.out HW_.out zG83) (fun _ _ _ h => h) (Or.inl ⟨by rfl, ?_⟩) hHeld ?_ ?_
            rotate_left
            ·rintro w' ⟨s0, s1, s2, s3, s4, s5⟩
             go_simp
             with_reducible rfl
            rotate_left
            ·simp only [Act.put, List.setIfInBounds_toArray, List.set_cons_zero, List.set_cons_succ, i64_w, i32_w]
             rfl
            refine take_ (i := 6) (N := some 48) (v := ?_) (a' := ?_) b10A2 rfl rfl (take_ofW HT_.out HW_.out zG83) (fun _ _ _ h => h) (Or.inl ⟨by rfl, ?_⟩) hHeld ?_ ?_
            rotate_left
            ·rintro w' ⟨s0, s1, s2, s3, s4, s5⟩
             go_simp
             with_reducible rfl
            rotate_left
            ·simp only [Act.put, List.setIfInBounds_toArray, List.set_cons_zero, List.set_cons_succ, i64_w, i32_w]
             rfl
            refine pure_ (i := 7) (N := some 49) (v := ?_) (a' := ?_) b10A3 rfl rfl (any_of HT_.out zG83) (fun _ _ _ h => h) (Or.inl ⟨by rfl, ?_⟩) ?_ ?_
            rotate_left
            ·intro w'
             go_simp
             with_reducible rfl
            rotate_left
            ·simp only [Act.put, List.setIfInBounds_toArray, List.set_cons_zero, List.set_cons_succ, i64_w, i32_w]
             rfl
            refine pure_ (i := 8) (N := some 50) (v := ?_) (a' := ?_) b10A4 rfl rfl (any_of HT_.out zG83) (fun _ _ _ h => h) (Or.inl ⟨by rfl, ?_⟩) ?_ ?_
            rotate_left
            ·intro w'
             go_simp
             with_reducible rfl
            rotate_left
            ·simp only [Act.put, List.setIfInBounds_toArray, List.set_cons_zero, List.set_cons_succ, i64_w, i32_w]
             rfl
            refine last_ (i := 9) (N := none) b10A5 rfl rfl (one_of HT_.out zG83) (by decide) (fun K hK => ?_)
            have hs35 : w34.cell? ⟨gb246, 2, none⟩ = some (.int .i64 x247002_1) := (zm BK246.out 2).trans rfl
            have hfs35 := zj BK246.out 2
            have hns35_0 := NB242_246.out
            have hms35_0 := NB246_242.out
            refine skip_ (w1 := ?_) (by rfl) rfl ?_ ?_
            rotate_left
            ·go_simp
             rfl
            refine hK.out _ _ ?_
            clear hK K
            refine done_ (done_of HT_.out zG83) ?_
            try go_wp2
            go_roundg k1
            case measure => have := HK1.out; omega
            case rel => exact ⟨(wrap64 (x16_1 + 1)), (x243001_1), (x243002_1), (wrap64 (x247001_1 + 1)), (wrap64 (x247002_1 + ((rd_T75 l0 (rd l2 x16_1)).f1))), zG82, H', ⟨by have := HK1.out; omega⟩, ⟨by (with_reducible repeat (first | apply zk | apply zl | apply zn)); exact zx (zv (p := ⟨gb246, 2, none⟩) (zac HO_247000.out BK246.out (by decide)) (fun _ hk => hk.2) (.int .i64 (wrap64 (x247002_1 + ((rd_T75 l0 (rd l2 x16_1)).f1))))) (fun _ hk => trivial)⟩, ⟨by (with_reducible repeat (first | refine zh ?_ _ | refine zi ?_ | refine zg ?_ _)); refine zag ?_ NB242_246.out _; (with_reducible repeat (first | refine zh ?_ _ | refine zi ?_ | refine zg ?_ _)); exact BK242.out⟩, ⟨by (with_reducible repeat (first | refine zh ?_ _ | refine zi ?_ | refine zg ?_ _)); refine zy (cs := #[.slice Ao7 t243.length co7, .int .i64 (wrap64 (x247001_1 + 1)), .int .i64 x247002_1]) ?_ 2 _ rfl; (with_reducible repeat (first | refine zh ?_ _ | refine zi ?_ | refine zg ?_ _)); exact BK246.out⟩, ⟨by repeat (first | (with_reducible first | exact HB.out | apply zd | apply zb | apply zc | refine zf ?_ GE242.out | refine zf ?_ GE246.out) | exact HB.out)⟩⟩
          ·rw [if_neg c20] at H
           exact absurd H (by simp)
         ·replace c18 := Bool.eq_false_iff.mpr c18
          subst c18
          have H1 : (some (([] : List Int), 0, 0, false)) = some (r1, r2, r3, r4) := by rw [if_neg (show ¬ (false = true) by decide)] at H; exact H
          clear H
          have H := H1
          clear H1
          simp only [Option.some.injEq, Prod.mk.injEq] at H
          obtain ⟨rfl, rfl, rfl, rfl⟩ := H
          have p247 : 0 ≤ (x16_1 : Int) := zO
          have q247 : x16_1 < (l2.length : Int) := zO
          obtain ⟨ad247, e247, hx247_0⟩ := zal HR2.out x16_1 p247 q247
          cases e247
          replace hx247_0 := (HB.out.cell (ze w _ hx247_0)).trans hx247_0
          replace p247 := eq_true p247
          replace q247 := eq_true q247
          try go_wp2
          have n0_ := za (zn HO_247000.out)
          have n1_ := za (zi BK242.out)
          have n2_ := za (zi BK246.out)
          have n3_ := za (zc HB.out)
          clear HO_247000
          clear BK242
          clear BK246
          clear HB
          have HO_247000 := n0_
          have BK242 := n1_
          have BK246 := n2_
          have HB := n3_
          clear n0_ n1_ n2_ n3_
          have p248 : 0 ≤ ((rd l2 x16_1) : Int) := zO
          have q248 : (rd l2 x16_1) < (l0.length : Int) := zO
          obtain ⟨ad248, A248_2, c248_2, e248, hx248_0, hx248_1, hx248_2, hl248_2, hi248_2⟩ := at_T75 HR0.out (rd l2 x16_1) p248 q248
          have hw248_2 := hx248_2
          have hw248_1 := hx248_1
          have hw248_0 := hx248_0
          cases e248
          replace hx248_0 := (HB.out.cell (ze w _ hx248_0)).trans hx248_0
          replace hx248_1 := (HB.out.cell (ze w _ hx248_1)).trans hx248_1
          replace hx248_2 := (HB.out.cell (ze w _ hx248_2)).trans hx248_2
          have HR248_2 := za hi248_2
          have HC248_2 := za hl248_2
          clear hi248_2 hl248_2
          replace p248 := eq_true p248
          replace q248 := eq_true q248
          have p249 : 0 ≤ (x16_1 : Int) := zO
          have q249 : x16_1 < (l1.length : Int) := zO
          obtain ⟨ad249, e249, hx249_0, hx249_1⟩ := at_T76 HR1.out x16_1 p249 q249
          have hw249_1 := hx249_1
          have hw249_0 := hx249_0
          cases e249
          replace hx249_0 := (HB.out.cell (ze w _ hx249_0)).trans hx249_0
          replace hx249_1 := (HB.out.cell (ze w _ hx249_1)).trans hx249_1
          replace p249 := eq_true p249
          replace q249 := eq_true q249
          refine start_ (n := 10) (S := fun w' => w'.cell? (ad248.add (((rd l2 x16_1)).toNat * 3)) = some (.string ((rd_T75 l0 (rd l2 x16_1)).f0)) ∧ w'.cell? ⟨(ad248.add (((rd l2 x16_1)).toNat * 3)).block, (ad248.add (((rd l2 x16_1)).toNat * 3)).off + 1, none⟩ = some (.int .i64 ((rd_T75 l0 (rd l2 x16_1)).f1)) ∧ w'.cell? ⟨(ad248.add (((rd l2 x16_1)).toNat * 3)).block, (ad248.add (((rd l2 x16_1)).toNat * 3)).off + 2, none⟩ = some (.slice A248_2 ((rd_T75 l0 (rd l2 x16_1)).f2).length c248_2) ∧ w'.cell? (ad249.add ((x16_1).toNat * 2)) = some (.string ((rd_T76 l1 x16_1).f0)) ∧ w'.cell? ⟨(ad249.add ((x16_1).toNat * 2)).block, (ad249.add ((x16_1).toNat * 2)).off + 1, none⟩ = some (.int .i64 ((rd_T76 l1 x16_1).f1))) (ds := []) b10A0 zG83 rfl rfl ⟨((HB.out.cell (ze w _ hw248_0)).trans hw248_0), ((HB.out.cell (ze w _ hw248_1)).trans hw248_1), ((HB.out.cell (ze w _ hw248_2)).trans hw248_2), ((HB.out.cell (ze w _ hw249_0)).trans hw249_0), ((HB.out.cell (ze w _ hw249_1)).trans hw249_1)⟩ (fun hHeld => ?_); refine with_tabW impl_sourceOf.tab5 impl_sourceOf.bits5 (fun HT_ HW_ => ?_)
          generalize wr.drew = w36 at HO_247000 BK242 BK246 HB HR248_2 hx248_0 hx248_1 hx248_2 hx249_0 hx249_1 hHeld ⊢
          refine pure_ (i := 0) (N := some 21) (v := ?_) (a' := ?_) b10A1 rfl rfl (any_of HT_.out zG83) (fun _ _ _ h => h) (Or.inl ⟨by rfl, ?_⟩) ?_ ?_
          rotate_left
          ·intro w'
           go_simp
           with_reducible rfl
          rotate_left
          ·simp only [Act.put, List.setIfInBounds_toArray, List.set_cons_zero, List.set_cons_succ, i64_w, i32_w]
           rfl
          refine pure_ (i := 1) (N := some 22) (v := ?_) (a' := ?_) b10A6 rfl rfl (any_of HT_.out zG83) (fun _ _ _ h => h) (Or.inl ⟨by rfl, ?_⟩) ?_ ?_
          rotate_left
          ·intro w'
           go_simp
           with_reducible rfl
          rotate_left
          ·simp only [Act.put, List.setIfInBounds_toArray, List.set_cons_zero, List.set_cons_succ, i64_w, i32_w]
           rfl
          refine pure_ (i := 2) (N := some 23) (v := ?_) (a' := ?_) b10A7 rfl rfl (any_of HT_.out zG83) (fun _ _ _ h => h) (Or.inl ⟨by rfl, ?_⟩) ?_ ?_
          rotate_left
          ·intro w'
           go_simp
           with_reducible rfl
          rotate_left
          ·simp only [Act.put, List.setIfInBounds_toArray, List.set_cons_zero, List.set_cons_succ, i64_w, i32_w]
           rfl
          refine pure_ (i := 4) (N := some 25) (v := ?_) (a' := ?_) b10A8 rfl rfl (any_of HT_.out zG83) (fun _ _ _ h => h) (Or.inl ⟨by rfl, ?_⟩) ?_ ?_
          rotate_left
          ·intro w'
           go_simp
           with_reducible rfl
          rotate_left
          ·simp only [Act.put, List.setIfInBounds_toArray, List.set_cons_zero, List.set_cons_succ, i64_w, i32_w]
           rfl
          refine pure_ (i := 5) (N := some 26) (v := ?_) (a' := ?_) b10A9 rfl rfl (any_of HT_.out zG83) (fun _ _ _ h => h) (Or.inl ⟨by rfl, ?_⟩) ?_ ?_
          rotate_left
          ·intro w'
           go_simp
           with_reducible rfl
          rotate_left
          ·simp only [Act.put, List.setIfInBounds_toArray, List.set_cons_zero, List.set_cons_succ, i64_w, i32_w]
           rfl
          refine pure_ (i := 6) (N := some 27) (v := ?_) (a' := ?_) b10A10 rfl rfl (any_of HT_.out zG83) (fun _ _ _ h => h) (Or.inl ⟨by rfl, ?_⟩) ?_ ?_
          rotate_left
          ·intro w'
           go_simp
           with_reducible rfl
          rotate_left
          ·simp only [Act.put, List.setIfInBounds_toArray, List.set_cons_zero, List.set_cons_succ, i64_w, i32_w]
           rfl
          refine take_ (i := 3) (N := some 24) (v := ?_) (a' := ?_) b10A2 rfl rfl (take_ofW HT_.out HW_.out zG83) (fun _ _ _ h => h) (Or.inl ⟨by rfl, ?_⟩) hHeld ?_ ?_
          rotate_left
          ·rintro w' ⟨s0, s1, s2, s3, s4⟩
           go_simp
           with_reducible rfl
          rotate_left
          ·simp only [Act.put, List.setIfInBounds_toArray, List.set_cons_zero, List.set_cons_succ, i64_w, i32_w]
           rfl
          refine take_ (i := 7) (N := some 28) (v := ?_) (a' := ?_) b10A3 rfl rfl (take_ofW HT_.out HW_.out zG83) (fun _ _ _ h => h) (Or.inl ⟨by rfl, ?_⟩) hHeld ?_ ?_
          rotate_left
          ·rintro w' ⟨s0, s1, s2, s3, s4⟩
           go_simp
           with_reducible rfl
          rotate_left
          ·simp only [Act.put, List.setIfInBounds_toArray, List.set_cons_zero, List.set_cons_succ, i64_w, i32_w]
           rfl
          refine one_ (i := 8) (N := some 29) b10A4 rfl rfl (one_of HT_.out zG83) (by decide) (fun K hK => ?_)
          refine goes_ Try.func75 zG83 rfl #[.agg #[.string ((rd_T75 l0 (rd l2 x16_1)).f0), .int .i64 ((rd_T75 l0 (rd l2 x16_1)).f1), .slice A248_2 ((rd_T75 l0 (rd l2 x16_1)).f2).length c248_2], .agg #[.string ((rd_T76 l1 x16_1).f0), .int .i64 ((rd_T76 l1 x16_1).f1)]] (by rfl) rfl rfl zG67 ?_
          with_reducible refine (impl_Source_gives.calls k1 ((rd_T75 l0 (rd l2 x16_1)).f0) ((rd_T75 l0 (rd l2 x16_1)).f1) _ _ ((rd_T75 l0 (rd l2 x16_1)).f2) ((rd_T76 l1 x16_1).f0) ((rd_T76 l1 x16_1).f1) false _ ?side1 ?side2 A17.out).mono ?_
          (case side1 => repeat (first | exact (zw HR248_2.out HB.out) | (with_reducible refine zs ?_ _) | (with_reducible refine zt ?_ _) | (with_reducible refine zu ?_)))
          (case side2 => exact HC248_2.out)
          rintro e w37 ⟨rfl, hb⟩
          refine ⟨_, rfl, ?_⟩
          have n0_ := za (zp (by (with_reducible repeat (first | apply zk | apply zl | apply zn)); exact HO_247000.out) hb)
          have n1_ := za (zr (g := gb242) (o := .cells #[.slice none 0 0, .int .i64 x243001_1, .int .i64 x243002_1] 28 (0, 0)) (by (with_reducible repeat (first | refine zh ?_ _ | refine zi ?_ | refine zg ?_ _)); exact BK242.out) hb)
          have n2_ := za (zr (g := gb246) (o := .cells #[.slice Ao7 t243.length co7, .int .i64 x247001_1, .int .i64 x247002_1] 28 (0, 0)) (by (with_reducible repeat (first | refine zh ?_ _ | refine zi ?_ | refine zg ?_ _)); exact BK246.out) hb)
          have n3_ := za (zq (by repeat (first | (with_reducible first | exact HB.out | apply zd | apply zb | apply zc | refine zf ?_ GE242.out | refine zf ?_ GE246.out) | exact HB.out)) hb)
          clear HO_247000
          clear BK242
          clear BK246
          clear HB
          have HO_247000 := n0_
          have BK242 := n1_
          have BK246 := n2_
          have HB := n3_
          clear n0_ n1_ n2_ n3_
          (try clear hb)
          (try clear hb2)
          (try clear hk)
          (try clear hi)
          refine hK.out _ _ ⟨((HB.out.cell (ze w _ hw248_0)).trans hw248_0), ((HB.out.cell (ze w _ hw248_1)).trans hw248_1), ((HB.out.cell (ze w _ hw248_2)).trans hw248_2), ((HB.out.cell (ze w _ hw249_0)).trans hw249_0), ((HB.out.cell (ze w _ hw249_1)).trans hw249_1)⟩ (fun hHeld => ?_)
          clear hK K
          refine norm_ (a' := ?_) ?_ ?_
          rotate_left
          ·show Act.put _ (some 29) _ = _
           simp only [Act.put, List.setIfInBounds_toArray, List.set_cons_zero, List.set_cons_succ, i64_w, i32_w]
           rfl
          refine pure_ (i := 9) (N := some 30) (v := ?_) (a' := ?_) b10A5 rfl rfl (any_of HT_.out zG83) (fun _ _ _ h => h) (Or.inl ⟨by rfl, ?_⟩) ?_ ?_
          rotate_left
          ·intro w'
           go_simp
           with_reducible rfl
          rotate_left
          ·simp only [Act.put, List.setIfInBounds_toArray, List.set_cons_zero, List.set_cons_succ, i64_w, i32_w]
           rfl
          refine done_ (done_of HT_.out zG83) ?_
          have hnb38 := NB242_246.out
          have hnc38 := NB246_242.out
          have hcz39_0 : w37.cell? ⟨gb242, 0, none⟩ = some (.slice none 0 0) := (zm BK242.out 0).trans rfl
          have hcz39_1 : w37.cell? ⟨gb242, 1, none⟩ = some (.int .i64 x243001_1) := (zm BK242.out 1).trans rfl
          have hcz39_2 : w37.cell? ⟨gb242, 2, none⟩ = some (.int .i64 x243002_1) := (zm BK242.out 2).trans rfl
          have hfz39_0 := zj BK242.out 0
          have hfz39_1 := zj BK242.out 1
          have hfz39_2 := zj BK242.out 2
          try go_wp2
          refine bodyPost_ret (results_ct rfl _ _ gb242 28 #[.slice none 0 0, .int .i64 0, .int .i64 0] (0, 0) _ rfl (by (with_reducible repeat (first | refine zh ?_ _ | refine zi ?_ | refine zg ?_ _)); refine zy (cs := #[.slice none 0 0, .int .i64 0, .int .i64 x243002_1]) ?_ 2 _ rfl; (with_reducible repeat (first | refine zh ?_ _ | refine zi ?_ | refine zg ?_ _)); refine zy (cs := #[.slice none 0 0, .int .i64 x243001_1, .int .i64 x243002_1]) ?_ 1 _ rfl; (with_reducible repeat (first | refine zh ?_ _ | refine zi ?_ | refine zg ?_ _)); refine zy (cs := #[.slice none 0 0, .int .i64 x243001_1, .int .i64 x243002_1]) ?_ 0 _ rfl; (with_reducible repeat (first | refine zh ?_ _ | refine zi ?_ | refine zg ?_ _)); exact BK242.out) Try.underlying28 rfl zG83) rfl ?_
          exact ⟨_, by first | rfl | (simp [errW_none, errW_some] <;> rfl) | (simp [*, errW_none, errW_some] <;> rfl), by first | exact zaw _ _ _ _ _ | exact zaz _ _ _ _ _ | exact zba _ _ _ _ _ | exact zbb _ _ _ _ _ | exact zbc _ _ _ _ _, by repeat (first | (with_reducible first | exact HB.out | apply zd | apply zb | apply zc | refine zf ?_ GE242.out | refine zf ?_ GE246.out) | exact HB.out)⟩
        ·rw [if_neg c16] at H
         exact absurd H (by simp)
       ·rw [if_neg c15] at H
        exact absurd H (by simp)
      ·rw [if_neg c14] at H
       exact absurd H (by simp)
     ·rw [if_neg c13] at H
      exact absurd H (by simp)
    ·rw [if_neg c12] at H
     exact absurd H (by simp)
   ·rw [if_neg c11] at H
    have c11b0 : decide (x16_1 < (l2.length : Int)) = false := decide_eq_false c11
    clear c11
    simp only [Option.some.injEq, Prod.mk.injEq] at H
    obtain ⟨rfl, rfl, rfl, rfl⟩ := H
    have hnb40 := NB246_242.out
    have hnc40 := NB242_246.out
    have hcz41_0 : wr.cell? ⟨gb246, 0, none⟩ = some (.slice Ao7 t243.length co7) := (zm BK246.out 0).trans rfl
    have hcz41_1 : wr.cell? ⟨gb246, 1, none⟩ = some (.int .i64 x247001_1) := (zm BK246.out 1).trans rfl
    have hcz41_2 : wr.cell? ⟨gb246, 2, none⟩ = some (.int .i64 x247002_1) := (zm BK246.out 2).trans rfl
    have hfz41_0 := zj BK246.out 0
    have hfz41_1 := zj BK246.out 1
    have hfz41_2 := zj BK246.out 2
    have hcz42_0 : wr.cell? ⟨gb242, 0, none⟩ = some (.slice none 0 0) := (zm BK242.out 0).trans rfl
    have hcz42_1 : wr.cell? ⟨gb242, 1, none⟩ = some (.int .i64 x243001_1) := (zm BK242.out 1).trans rfl
    have hcz42_2 : wr.cell? ⟨gb242, 2, none⟩ = some (.int .i64 x243002_1) := (zm BK242.out 2).trans rfl
    have hfz42_0 := zj BK242.out 0
    have hfz42_1 := zj BK242.out 1
    have hfz42_2 := zj BK242.out 2
    go_wp2
    refine bodyPost_ret (results_ct rfl _ _ gb242 28 #[.slice Ao7 t243.length co7, .int .i64 x247001_1, .int .i64 x247002_1] (0, 0) _ rfl (by (with_reducible repeat (first | refine zh ?_ _ | refine zi ?_ | refine zg ?_ _)); refine zy (cs := #[.slice Ao7 t243.length co7, .int .i64 x247001_1, .int .i64 x243002_1]) ?_ 2 _ rfl; (with_reducible repeat (first | refine zh ?_ _ | refine zi ?_ | refine zg ?_ _)); refine zy (cs := #[.slice Ao7 t243.length co7, .int .i64 x243001_1, .int .i64 x243002_1]) ?_ 1 _ rfl; (with_reducible repeat (first | refine zh ?_ _ | refine zi ?_ | refine zg ?_ _)); refine zy (cs := #[.slice none 0 0, .int .i64 x243001_1, .int .i64 x243002_1]) ?_ 0 _ rfl; (with_reducible repeat (first | refine zh ?_ _ | refine zi ?_ | refine zg ?_ _)); exact BK242.out) Try.underlying28 rfl zG83) rfl ?_
    exact ⟨_, by first | rfl | (simp [errW_none, errW_some] <;> rfl) | (simp [*, errW_none, errW_some] <;> rfl), by (with_reducible repeat (first | apply zk | apply zl | apply zn)); exact zx (zv (p := ⟨gb242, 2, none⟩) (zv (p := ⟨gb242, 1, none⟩) (zv (p := ⟨gb242, 0, none⟩) (zac HO_247000.out BK242.out (by decide)) (fun _ hk => hk.2) (.slice Ao7 t243.length co7)) (fun _ hk => hk.2) (.int .i64 x247001_1)) (fun _ hk => hk.2) (.int .i64 x247002_1)) (fun _ hk => trivial), by repeat (first | (with_reducible first | exact HB.out | apply zd | apply zb | apply zc | refine zf ?_ GE242.out | refine zf ?_ GE246.out) | exact HB.out)⟩

end Go.Proofs.Ytjibigpdbpipcaa.L
